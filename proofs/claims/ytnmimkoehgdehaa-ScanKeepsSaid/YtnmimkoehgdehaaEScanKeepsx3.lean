-- Written by this session's own program (wip/tools/ext.py) for this claim; Lean checks it.
import Derived.Test.YtnmimkoehgdehaaEScanKeepsx0
import Derived.Test.YtnmimkoehgdehaaEScanKeepsx1
import Derived.Test.YtnmimkoehgdehaaEScanKeepsx2
namespace Go.Proofs.Ytnmimkoehgdehaa.EScanKeeps
open Go.RowKit Go.Proofs.YtnmimkoehgdehaaW.PrintWords Go.Proofs.YtnmimkoehgdehaaW.PrintLast Go.Proofs.YtnmimkoehgdehaaW.PrintMore
attribute [local go_sem] max2_int min2_int max_two min_two max_three min_three max_four min_four   -- for this text's walks alone
set_option linter.unusedVariables false
set_option linter.unusedSimpArgs false

/-! ### pleachlaw04_ScanKeeps: function 4 -/
mutual
def pleachlaw04_ScanKeeps.j0 : Nat → ByteArray → Int → Int → Bool → Option (Bool)
  | 0, _, _, _, _ => none
  | k + 1, x0, x1, x2, x14 => if x14 = true then ((pleachlaw04_awake.f).bind fun t165 => (some t165)) else ((scan_New.f x0).bind fun bt166 => ((scan_Scan_Fail.f bt166.1 bt166.2.1 bt166.2.2.1 bt166.2.2.2 x1).bind fun bt171 => ((scan_Scan_Fix.f bt171.1 bt171.2.1 bt171.2.2.1 bt171.2.2.2 x2).bind fun bt175 => (if bt175.1.toList = ([] : List UInt8) then ((scan_Scan_Byte.f bt175.2.1 bt175.2.2.1 bt175.2.2.2.1 bt175.2.2.2.2).bind fun bt180 => (if bt180.1 = 0 then ((scan_Scan_Num.f bt180.2.1 bt180.2.2.1 bt180.2.2.2.1 bt180.2.2.2.2 x2).bind fun bt185 => (if bt185.1 = 0 then ((scan_Scan_Int.f bt185.2.1 bt185.2.2.1 bt185.2.2.2.1 bt185.2.2.2.2).bind fun bt190 => (if bt190.1 = 0 then ((scan_Scan_Text.f bt190.2.1 bt190.2.2.1 bt190.2.2.2.1 bt190.2.2.2.2 x2).bind fun bt195 => (if bt195.1.toList = ([] : List UInt8) then ((scan_Scan_Rest.f bt195.2.1 bt195.2.2.1 bt195.2.2.2.1 bt195.2.2.2.2).bind fun bt200 => (pleachlaw04_ScanKeeps.j1 k x1 (bt200.1.toList != ([] : List UInt8)) bt200.2.1 bt200.2.2.1 bt200.2.2.2.1 bt200.2.2.2.2)) else (pleachlaw04_ScanKeeps.j1 k x1 true bt195.2.1 bt195.2.2.1 bt195.2.2.2.1 bt195.2.2.2.2))) else (pleachlaw04_ScanKeeps.j1 k x1 true bt190.2.1 bt190.2.2.1 bt190.2.2.2.1 bt190.2.2.2.2))) else (pleachlaw04_ScanKeeps.j1 k x1 true bt185.2.1 bt185.2.2.1 bt185.2.2.2.1 bt185.2.2.2.2))) else (pleachlaw04_ScanKeeps.j1 k x1 true bt180.2.1 bt180.2.2.1 bt180.2.2.2.1 bt180.2.2.2.2))) else (pleachlaw04_ScanKeeps.j1 k x1 true bt175.2.1 bt175.2.2.1 bt175.2.2.2.1 bt175.2.2.2.2)))))
def pleachlaw04_ScanKeeps.j1 : Nat → Int → Bool → ByteArray → Int → Int → Bool → Option (Bool)
  | 0, _, _, _, _, _, _ => none
  | k + 1, x1, x51, x171000, x171001, x171002, x171003 => if x51 = true then (some false) else ((scan_Scan_Fail.f x171000 x171001 x171002 x171003 2).bind fun bt205 => ((scan_Scan_End.f bt205.1 bt205.2.1 bt205.2.2.1 bt205.2.2.2).bind fun bt209 => (if bt209.1 = x1 then ((scan_Scan_Err.f bt209.2.1 bt209.2.2.1 bt209.2.2.2.1 bt209.2.2.2.2).bind fun bt214 => (if bt214.1 = x1 then ((scan_Scan_At.f bt214.2.1 bt214.2.2.1 bt214.2.2.2.1 bt214.2.2.2.2).bind fun bt219 => (if bt219.1 = 0 then ((pleachlaw04_awake.f).bind fun t224 => (some t224)) else (some false))) else (some false))) else (some false))))
end
def pleachlaw04_ScanKeeps.f (k : Nat) (a0 : ByteArray) (a1 : Int) (a2 : Int) : Option (Bool) := if (a0.size : Int) > 500 then (pleachlaw04_ScanKeeps.j0 k a0 a1 a2 true) else (pleachlaw04_ScanKeeps.j0 k a0 a1 a2 (a1 == 0))
theorem pleachlaw04_ScanKeeps.mono_l : ∀ k, (∀ y0 y1 y2 y3, LeO (pleachlaw04_ScanKeeps.j0 k y0 y1 y2 y3) (pleachlaw04_ScanKeeps.j0 (k + 1) y0 y1 y2 y3)) ∧ (∀ y0 y1 y2 y3 y4 y5, LeO (pleachlaw04_ScanKeeps.j1 k y0 y1 y2 y3 y4 y5) (pleachlaw04_ScanKeeps.j1 (k + 1) y0 y1 y2 y3 y4 y5))
  | 0 => ⟨fun _ _ _ _ r h => by simp [pleachlaw04_ScanKeeps.j0] at h, fun _ _ _ _ _ _ r h => by simp [pleachlaw04_ScanKeeps.j1] at h⟩
  | k + 1 => by
    obtain ⟨ih0, ih1⟩ := pleachlaw04_ScanKeeps.mono_l k
    refine ⟨?_, ?_⟩
    · intro y0 y1 y2 y3
      unfold pleachlaw04_ScanKeeps.j0
      repeat' first
      | (with_reducible exact ih0 _ _ _ _)
      | (with_reducible exact ih1 _ _ _ _ _ _)
      | (with_reducible exact LeO.refl _)
      | (with_reducible exact LeO.none _)
      | (with_reducible refine LeO.ite ?_ ?_)
      | (with_reducible refine LeO.bind ?_ (fun _ => ?_))
      | exact ih0 _ _ _ _
      | exact ih1 _ _ _ _ _ _
      | exact LeO.none _
      | refine LeO.ite ?_ ?_
      | refine LeO.bind ?_ (fun _ => ?_)
    · intro y0 y1 y2 y3 y4 y5
      unfold pleachlaw04_ScanKeeps.j1
      repeat' first
      | (with_reducible exact ih0 _ _ _ _)
      | (with_reducible exact ih1 _ _ _ _ _ _)
      | (with_reducible exact LeO.refl _)
      | (with_reducible exact LeO.none _)
      | (with_reducible refine LeO.ite ?_ ?_)
      | (with_reducible refine LeO.bind ?_ (fun _ => ?_))
      | exact ih0 _ _ _ _
      | exact ih1 _ _ _ _ _ _
      | exact LeO.none _
      | refine LeO.ite ?_ ?_
      | refine LeO.bind ?_ (fun _ => ?_)
theorem pleachlaw04_ScanKeeps.mono : ∀ a0 a1 a2 k, LeO (pleachlaw04_ScanKeeps.f k a0 a1 a2) (pleachlaw04_ScanKeeps.f (k + 1) a0 a1 a2) := by
  intro a0 a1 a2 k
  obtain ⟨ih0, ih1⟩ := pleachlaw04_ScanKeeps.mono_l k
  unfold pleachlaw04_ScanKeeps.f
  repeat' first
      | (with_reducible exact ih0 _ _ _ _)
      | (with_reducible exact ih1 _ _ _ _ _ _)
      | (with_reducible exact LeO.refl _)
      | (with_reducible exact LeO.none _)
      | (with_reducible refine LeO.ite ?_ ?_)
      | (with_reducible refine LeO.bind ?_ (fun _ => ?_))
      | exact ih0 _ _ _ _
      | exact ih1 _ _ _ _ _ _
      | exact LeO.none _
      | refine LeO.ite ?_ ?_
      | refine LeO.bind ?_ (fun _ => ?_)
set_option maxHeartbeats 8000000 in
set_option maxRecDepth 100000 in
theorem pleachlaw04_ScanKeeps.calls (k : Nat) (a0 : ByteArray) (a1 : Int) (a2 : Int) (r : Bool) (w : World) (h : pleachlaw04_ScanKeeps.f k a0 a1 a2 = some r) :
    Calls Try.prog 4 #[.string a0, .int .i64 a1, .int .i64 a2] w fun e w' => e = .returned (.bool r) ∧ Below w.heap.size w w' := by
  have HB := Aside0.mk (Below.refl w.heap.size w)
  have H : (if (a0.size : Int) > 500 then (pleachlaw04_ScanKeeps.j0 k a0 a1 a2 true) else (pleachlaw04_ScanKeeps.j0 k a0 a1 a2 (a1 == 0))) = some r := h
  clear h
  have HC4 := Aside0.mk H
  clear H
  go_enter Try.func4, Try.ntmps4
  go_upto_region 1 with (fail)
  go_cut [14] (fun v14 wc => ∃ (kq : Nat) (x14_3 : Bool), v14 = .bool x14_3 ∧ Aside0 (pleachlaw04_ScanKeeps.j0 kq a0 a1 a2 x14_3 = some r) ∧ Aside0 (kq ≤ k) ∧ Aside0 (Below w.heap.size w wc))
  case first =>
    have H := HC4.out
    clear HC4
    by_cases c5 : (a0.size : Int) > 500
    · rw [if_pos c5] at H
      have c5b0 : decide (500 < (a0.size : Int)) = true := decide_eq_true c5
      have c5b1 : decide (500 < a0.size) = true := decide_eq_true (by omega)
      clear c5
      (first | rw [c5b0] | (simp only [i64_w, i32_w]; rw [c5b0]) | skip)
      have H' := Aside0.mk H
      clear H
      go_wp2
      go_meet
      case rel => exact ⟨_, (true), (by first | rfl | (simp; done) | (simp [*]; done) | (simp [M.isEmpty_bne]; done)), H', ⟨by first | omega | exact Nat.le_refl _⟩, ⟨by repeat (first | (with_reducible first | exact HB.out | apply below_alloc | apply pw_below_drewN | apply below_drew1) | exact HB.out)⟩⟩
    · rw [if_neg c5] at H
      have c5b0 : decide (500 < (a0.size : Int)) = false := decide_eq_false c5
      have c5b1 : decide (500 < a0.size) = false := decide_eq_false (by omega)
      clear c5
      (first | rw [c5b0] | (simp only [i64_w, i32_w]; rw [c5b0]) | skip)
      have H' := Aside0.mk H
      clear H
      go_wp2
      go_meet
      case rel => exact ⟨_, ((a1 == 0)), (by first | rfl | (simp; done) | (simp [*]; done) | (simp [M.isEmpty_bne]; done)), H', ⟨by first | omega | exact Nat.le_refl _⟩, ⟨by repeat (first | (with_reducible first | exact HB.out | apply below_alloc | apply pw_below_drewN | apply below_drew1) | exact HB.out)⟩⟩
  case rest =>
    clear HC4
    try clear p2
    try clear c4
    try clear c5
    try clear c5b0
    try clear c5b1
    obtain ⟨kq, x14_3, rfl, HA, HJ3, HB⟩ := hcut
    cases kq with
    | zero => exact absurd HA.out (by simp [pleachlaw04_ScanKeeps.j0])
    | succ kj3 =>
      have H := HA.out
      clear HA
      simp only [pleachlaw04_ScanKeeps.j0] at H
      by_cases c6 : x14_3 = true
      · subst c6
        have H1 : ((pleachlaw04_awake.f).bind fun t165 => (some t165)) = some r := by rw [if_pos rfl] at H; exact H
        clear H
        have H := H1
        clear H1
        replace H := Option.bind_eq_some_iff.mp H
        obtain ⟨t165, A70, H⟩ := H
        replace H : (some t165) = some r := H
        have A7 := Aside0.mk A70
        clear A70
        obtain rfl := Option.some.inj H
        go_wp2_with (first | ((with_reducible refine gate_callee (f := 7) rfl ?_); refine goesL_ (some 15) rfl rfl Try.func7 (by kernel_rfl) rfl #[] rfl (by (try simp only [List.map_toArray, List.map_cons, List.map_nil]); first | done | rfl | (simp only [List.length_drop, List.length_take]; rfl)) ?_; (with_reducible refine (pleachlaw04_awake.calls  t165 _ A7.out).mono ?_); rintro e w8 ⟨rfl, hb⟩; refine ⟨_, rfl, ?_⟩; have n0_ := Aside0.mk (below_step (by repeat (first | (with_reducible first | exact HB.out | apply below_alloc | apply pw_below_drewN | apply below_drew1) | exact HB.out)) hb); clear HB; have HB := n0_; clear n0_; (try clear hb); (try clear hb2); (try clear hk); (try clear hi)))
        go_ret
        exact ⟨by first | rfl | (simp [errW_none, errW_some] <;> rfl) | (simp [*, errW_none, errW_some] <;> rfl), by repeat (first | (with_reducible first | exact HB.out | apply below_alloc | apply pw_below_drewN | apply below_drew1) | exact HB.out)⟩
      · replace c6 := Bool.eq_false_iff.mpr c6
        subst c6
        have H1 : ((scan_New.f a0).bind fun bt166 => ((scan_Scan_Fail.f bt166.1 bt166.2.1 bt166.2.2.1 bt166.2.2.2 a1).bind fun bt171 => ((scan_Scan_Fix.f bt171.1 bt171.2.1 bt171.2.2.1 bt171.2.2.2 a2).bind fun bt175 => (if bt175.1.toList = ([] : List UInt8) then ((scan_Scan_Byte.f bt175.2.1 bt175.2.2.1 bt175.2.2.2.1 bt175.2.2.2.2).bind fun bt180 => (if bt180.1 = 0 then ((scan_Scan_Num.f bt180.2.1 bt180.2.2.1 bt180.2.2.2.1 bt180.2.2.2.2 a2).bind fun bt185 => (if bt185.1 = 0 then ((scan_Scan_Int.f bt185.2.1 bt185.2.2.1 bt185.2.2.2.1 bt185.2.2.2.2).bind fun bt190 => (if bt190.1 = 0 then ((scan_Scan_Text.f bt190.2.1 bt190.2.2.1 bt190.2.2.2.1 bt190.2.2.2.2 a2).bind fun bt195 => (if bt195.1.toList = ([] : List UInt8) then ((scan_Scan_Rest.f bt195.2.1 bt195.2.2.1 bt195.2.2.2.1 bt195.2.2.2.2).bind fun bt200 => (pleachlaw04_ScanKeeps.j1 kj3 a1 (bt200.1.toList != ([] : List UInt8)) bt200.2.1 bt200.2.2.1 bt200.2.2.2.1 bt200.2.2.2.2)) else (pleachlaw04_ScanKeeps.j1 kj3 a1 true bt195.2.1 bt195.2.2.1 bt195.2.2.2.1 bt195.2.2.2.2))) else (pleachlaw04_ScanKeeps.j1 kj3 a1 true bt190.2.1 bt190.2.2.1 bt190.2.2.2.1 bt190.2.2.2.2))) else (pleachlaw04_ScanKeeps.j1 kj3 a1 true bt185.2.1 bt185.2.2.1 bt185.2.2.2.1 bt185.2.2.2.2))) else (pleachlaw04_ScanKeeps.j1 kj3 a1 true bt180.2.1 bt180.2.2.1 bt180.2.2.2.1 bt180.2.2.2.2))) else (pleachlaw04_ScanKeeps.j1 kj3 a1 true bt175.2.1 bt175.2.2.1 bt175.2.2.2.1 bt175.2.2.2.2))))) = some r := by rw [if_neg (show ¬ (false = true) by decide)] at H; exact H
        clear H
        have H := H1
        clear H1
        replace H := Option.bind_eq_some_iff.mp H
        obtain ⟨⟨t166, t167, t168, t169⟩, A90, H⟩ := H
        replace H : ((scan_Scan_Fail.f t166 t167 t168 t169 a1).bind fun bt171 => ((scan_Scan_Fix.f bt171.1 bt171.2.1 bt171.2.2.1 bt171.2.2.2 a2).bind fun bt175 => (if bt175.1.toList = ([] : List UInt8) then ((scan_Scan_Byte.f bt175.2.1 bt175.2.2.1 bt175.2.2.2.1 bt175.2.2.2.2).bind fun bt180 => (if bt180.1 = 0 then ((scan_Scan_Num.f bt180.2.1 bt180.2.2.1 bt180.2.2.2.1 bt180.2.2.2.2 a2).bind fun bt185 => (if bt185.1 = 0 then ((scan_Scan_Int.f bt185.2.1 bt185.2.2.1 bt185.2.2.2.1 bt185.2.2.2.2).bind fun bt190 => (if bt190.1 = 0 then ((scan_Scan_Text.f bt190.2.1 bt190.2.2.1 bt190.2.2.2.1 bt190.2.2.2.2 a2).bind fun bt195 => (if bt195.1.toList = ([] : List UInt8) then ((scan_Scan_Rest.f bt195.2.1 bt195.2.2.1 bt195.2.2.2.1 bt195.2.2.2.2).bind fun bt200 => (pleachlaw04_ScanKeeps.j1 kj3 a1 (bt200.1.toList != ([] : List UInt8)) bt200.2.1 bt200.2.2.1 bt200.2.2.2.1 bt200.2.2.2.2)) else (pleachlaw04_ScanKeeps.j1 kj3 a1 true bt195.2.1 bt195.2.2.1 bt195.2.2.2.1 bt195.2.2.2.2))) else (pleachlaw04_ScanKeeps.j1 kj3 a1 true bt190.2.1 bt190.2.2.1 bt190.2.2.2.1 bt190.2.2.2.2))) else (pleachlaw04_ScanKeeps.j1 kj3 a1 true bt185.2.1 bt185.2.2.1 bt185.2.2.2.1 bt185.2.2.2.2))) else (pleachlaw04_ScanKeeps.j1 kj3 a1 true bt180.2.1 bt180.2.2.1 bt180.2.2.2.1 bt180.2.2.2.2))) else (pleachlaw04_ScanKeeps.j1 kj3 a1 true bt175.2.1 bt175.2.2.1 bt175.2.2.2.1 bt175.2.2.2.2)))) = some r := H
        have A9 := Aside0.mk A90
        clear A90
        replace H := Option.bind_eq_some_iff.mp H
        obtain ⟨⟨t171, t172, t173, t174⟩, A100, H⟩ := H
        replace H : ((scan_Scan_Fix.f t171 t172 t173 t174 a2).bind fun bt175 => (if bt175.1.toList = ([] : List UInt8) then ((scan_Scan_Byte.f bt175.2.1 bt175.2.2.1 bt175.2.2.2.1 bt175.2.2.2.2).bind fun bt180 => (if bt180.1 = 0 then ((scan_Scan_Num.f bt180.2.1 bt180.2.2.1 bt180.2.2.2.1 bt180.2.2.2.2 a2).bind fun bt185 => (if bt185.1 = 0 then ((scan_Scan_Int.f bt185.2.1 bt185.2.2.1 bt185.2.2.2.1 bt185.2.2.2.2).bind fun bt190 => (if bt190.1 = 0 then ((scan_Scan_Text.f bt190.2.1 bt190.2.2.1 bt190.2.2.2.1 bt190.2.2.2.2 a2).bind fun bt195 => (if bt195.1.toList = ([] : List UInt8) then ((scan_Scan_Rest.f bt195.2.1 bt195.2.2.1 bt195.2.2.2.1 bt195.2.2.2.2).bind fun bt200 => (pleachlaw04_ScanKeeps.j1 kj3 a1 (bt200.1.toList != ([] : List UInt8)) bt200.2.1 bt200.2.2.1 bt200.2.2.2.1 bt200.2.2.2.2)) else (pleachlaw04_ScanKeeps.j1 kj3 a1 true bt195.2.1 bt195.2.2.1 bt195.2.2.2.1 bt195.2.2.2.2))) else (pleachlaw04_ScanKeeps.j1 kj3 a1 true bt190.2.1 bt190.2.2.1 bt190.2.2.2.1 bt190.2.2.2.2))) else (pleachlaw04_ScanKeeps.j1 kj3 a1 true bt185.2.1 bt185.2.2.1 bt185.2.2.2.1 bt185.2.2.2.2))) else (pleachlaw04_ScanKeeps.j1 kj3 a1 true bt180.2.1 bt180.2.2.1 bt180.2.2.2.1 bt180.2.2.2.2))) else (pleachlaw04_ScanKeeps.j1 kj3 a1 true bt175.2.1 bt175.2.2.1 bt175.2.2.2.1 bt175.2.2.2.2))) = some r := H
        have A10 := Aside0.mk A100
        clear A100
        have HC11 := Aside0.mk H
        clear H
        go_upto_region 5 with (first | ((with_reducible refine gate_callee (f := 8) rfl ?_); refine goesL_ (some 17) rfl rfl Try.func8 (by kernel_rfl) rfl #[.string a0] rfl (by (try simp only [List.map_toArray, List.map_cons, List.map_nil]); first | done | rfl | (simp only [List.length_drop, List.length_take]; rfl)) ?_; (with_reducible refine (scan_New.calls a0 t166 t167 t168 t169 w _ ?side1 A9.out).mono ?_); (case side1 => repeat (first | (with_reducible first | exact HB.out | apply below_alloc | apply pw_below_drewN | apply below_drew1) | exact HB.out)); rintro e w12 ⟨g170, rfl, hi, hb, hb2⟩; refine ⟨_, rfl, ?_⟩; have n0_ := Aside0.mk (hb); have n1_ := Aside0.mk (hi); clear HB; have HB := n0_; have HI170 := n1_; clear n0_ n1_; (try clear hb); (try clear hb2); (try clear hk); (try clear hi)) | ((with_reducible refine gate_callee (f := 10) rfl ?_); refine goesL_ (some 20) rfl rfl Try.func10 (by kernel_rfl) rfl #[.pointer (some ⟨g170, 0, none⟩), .int .i64 a1] rfl (by (try simp only [List.map_toArray, List.map_cons, List.map_nil]); first | done | rfl | (simp only [List.length_drop, List.length_take]; rfl)) ?_; (with_reducible refine (scan_Scan_Fail.calls g170 t166 t167 t168 t169 a1 t171 t172 t173 t174 w _ ?side1 ?side2 A10.out).mono ?_); (case side1 => repeat (first | (with_reducible first | exact HI170.out | apply IsS42.alloc | apply IsS42.drewN | apply IsS42.drew | apply IsS42.set_0 | apply IsS42.set_1 | apply IsS42.set_2 | apply IsS42.set_3) | exact HI170.out)); (case side2 => repeat (first | (with_reducible first | exact HB.out | apply below_alloc | apply pw_below_drewN | apply below_drew1 | refine below_set ?_ (IsS42.ge HI170.out)) | exact HB.out)); rintro e w13 ⟨rfl, hi, hb, hk⟩; refine ⟨_, rfl, ?_⟩; have n0_ := Aside0.mk (hb); have n1_ := Aside0.mk (hi); clear HB; clear HI170; have HB := n0_; have HI170 := n1_; clear n0_ n1_; (try clear hb); (try clear hb2); (try clear hk); (try clear hi)))
        (try simp only [Act.put, List.setIfInBounds_toArray, List.set_cons_zero, List.set_cons_succ])
        go_cut [51] (fun v51 wc => ∃ (kq : Nat) (x51_10 : Bool) (x171000_10 : ByteArray) (x171001_10 : Int) (x171002_10 : Int) (x171003_10 : Bool), v51 = .bool x51_10 ∧ Aside0 (pleachlaw04_ScanKeeps.j1 kq a1 x51_10 x171000_10 x171001_10 x171002_10 x171003_10 = some r) ∧ Aside0 (kq ≤ kj3) ∧ Aside0 (IsS42 w wc g170 x171000_10 x171001_10 x171002_10 x171003_10) ∧ Aside0 (Below w.heap.size w wc))
        case first =>
          have H := HC11.out
          clear HC11
          replace H := Option.bind_eq_some_iff.mp H
          obtain ⟨⟨t175, t176, t177, t178, t179⟩, A140, H⟩ := H
          replace H : (if t175.toList = ([] : List UInt8) then ((scan_Scan_Byte.f t176 t177 t178 t179).bind fun bt180 => (if bt180.1 = 0 then ((scan_Scan_Num.f bt180.2.1 bt180.2.2.1 bt180.2.2.2.1 bt180.2.2.2.2 a2).bind fun bt185 => (if bt185.1 = 0 then ((scan_Scan_Int.f bt185.2.1 bt185.2.2.1 bt185.2.2.2.1 bt185.2.2.2.2).bind fun bt190 => (if bt190.1 = 0 then ((scan_Scan_Text.f bt190.2.1 bt190.2.2.1 bt190.2.2.2.1 bt190.2.2.2.2 a2).bind fun bt195 => (if bt195.1.toList = ([] : List UInt8) then ((scan_Scan_Rest.f bt195.2.1 bt195.2.2.1 bt195.2.2.2.1 bt195.2.2.2.2).bind fun bt200 => (pleachlaw04_ScanKeeps.j1 kj3 a1 (bt200.1.toList != ([] : List UInt8)) bt200.2.1 bt200.2.2.1 bt200.2.2.2.1 bt200.2.2.2.2)) else (pleachlaw04_ScanKeeps.j1 kj3 a1 true bt195.2.1 bt195.2.2.1 bt195.2.2.2.1 bt195.2.2.2.2))) else (pleachlaw04_ScanKeeps.j1 kj3 a1 true bt190.2.1 bt190.2.2.1 bt190.2.2.2.1 bt190.2.2.2.2))) else (pleachlaw04_ScanKeeps.j1 kj3 a1 true bt185.2.1 bt185.2.2.1 bt185.2.2.2.1 bt185.2.2.2.2))) else (pleachlaw04_ScanKeeps.j1 kj3 a1 true bt180.2.1 bt180.2.2.1 bt180.2.2.2.1 bt180.2.2.2.2))) else (pleachlaw04_ScanKeeps.j1 kj3 a1 true t176 t177 t178 t179)) = some r := H
          have A14 := Aside0.mk A140
          clear A140
          by_cases c15 : t175.toList = ([] : List UInt8)
          · rw [if_pos c15] at H
            have c15b0 : (t175.toList == ([] : List UInt8)) = true := beq_iff_eq.mpr c15
            have c15b1 : (t175.toList != ([] : List UInt8)) = false := bne_eq_false_iff_eq.mpr c15
            clear c15
            (first | rw [c15b0] | (simp only [i64_w, i32_w]; rw [c15b0]) | skip)
            replace H := Option.bind_eq_some_iff.mp H
            obtain ⟨⟨t180, t181, t182, t183, t184⟩, A160, H⟩ := H
            replace H : (if t180 = 0 then ((scan_Scan_Num.f t181 t182 t183 t184 a2).bind fun bt185 => (if bt185.1 = 0 then ((scan_Scan_Int.f bt185.2.1 bt185.2.2.1 bt185.2.2.2.1 bt185.2.2.2.2).bind fun bt190 => (if bt190.1 = 0 then ((scan_Scan_Text.f bt190.2.1 bt190.2.2.1 bt190.2.2.2.1 bt190.2.2.2.2 a2).bind fun bt195 => (if bt195.1.toList = ([] : List UInt8) then ((scan_Scan_Rest.f bt195.2.1 bt195.2.2.1 bt195.2.2.2.1 bt195.2.2.2.2).bind fun bt200 => (pleachlaw04_ScanKeeps.j1 kj3 a1 (bt200.1.toList != ([] : List UInt8)) bt200.2.1 bt200.2.2.1 bt200.2.2.2.1 bt200.2.2.2.2)) else (pleachlaw04_ScanKeeps.j1 kj3 a1 true bt195.2.1 bt195.2.2.1 bt195.2.2.2.1 bt195.2.2.2.2))) else (pleachlaw04_ScanKeeps.j1 kj3 a1 true bt190.2.1 bt190.2.2.1 bt190.2.2.2.1 bt190.2.2.2.2))) else (pleachlaw04_ScanKeeps.j1 kj3 a1 true bt185.2.1 bt185.2.2.1 bt185.2.2.2.1 bt185.2.2.2.2))) else (pleachlaw04_ScanKeeps.j1 kj3 a1 true t181 t182 t183 t184)) = some r := H
            have A16 := Aside0.mk A160
            clear A160
            by_cases c17 : t180 = 0
            · rw [if_pos c17] at H
              have c17b0 : (t180 == 0) = true := beq_iff_eq.mpr c17
              have c17b1 : (t180 != 0) = false := bne_eq_false_iff_eq.mpr c17
              clear c17
              replace H := Option.bind_eq_some_iff.mp H
              obtain ⟨⟨t185, t186, t187, t188, t189⟩, A180, H⟩ := H
              replace H : (if t185 = 0 then ((scan_Scan_Int.f t186 t187 t188 t189).bind fun bt190 => (if bt190.1 = 0 then ((scan_Scan_Text.f bt190.2.1 bt190.2.2.1 bt190.2.2.2.1 bt190.2.2.2.2 a2).bind fun bt195 => (if bt195.1.toList = ([] : List UInt8) then ((scan_Scan_Rest.f bt195.2.1 bt195.2.2.1 bt195.2.2.2.1 bt195.2.2.2.2).bind fun bt200 => (pleachlaw04_ScanKeeps.j1 kj3 a1 (bt200.1.toList != ([] : List UInt8)) bt200.2.1 bt200.2.2.1 bt200.2.2.2.1 bt200.2.2.2.2)) else (pleachlaw04_ScanKeeps.j1 kj3 a1 true bt195.2.1 bt195.2.2.1 bt195.2.2.2.1 bt195.2.2.2.2))) else (pleachlaw04_ScanKeeps.j1 kj3 a1 true bt190.2.1 bt190.2.2.1 bt190.2.2.2.1 bt190.2.2.2.2))) else (pleachlaw04_ScanKeeps.j1 kj3 a1 true t186 t187 t188 t189)) = some r := H
              have A18 := Aside0.mk A180
              clear A180
              by_cases c19 : t185 = 0
              · rw [if_pos c19] at H
                have c19b0 : (t185 == 0) = true := beq_iff_eq.mpr c19
                have c19b1 : (t185 != 0) = false := bne_eq_false_iff_eq.mpr c19
                clear c19
                replace H := Option.bind_eq_some_iff.mp H
                obtain ⟨⟨t190, t191, t192, t193, t194⟩, A200, H⟩ := H
                replace H : (if t190 = 0 then ((scan_Scan_Text.f t191 t192 t193 t194 a2).bind fun bt195 => (if bt195.1.toList = ([] : List UInt8) then ((scan_Scan_Rest.f bt195.2.1 bt195.2.2.1 bt195.2.2.2.1 bt195.2.2.2.2).bind fun bt200 => (pleachlaw04_ScanKeeps.j1 kj3 a1 (bt200.1.toList != ([] : List UInt8)) bt200.2.1 bt200.2.2.1 bt200.2.2.2.1 bt200.2.2.2.2)) else (pleachlaw04_ScanKeeps.j1 kj3 a1 true bt195.2.1 bt195.2.2.1 bt195.2.2.2.1 bt195.2.2.2.2))) else (pleachlaw04_ScanKeeps.j1 kj3 a1 true t191 t192 t193 t194)) = some r := H
                have A20 := Aside0.mk A200
                clear A200
                by_cases c21 : t190 = 0
                · rw [if_pos c21] at H
                  have c21b0 : (t190 == 0) = true := beq_iff_eq.mpr c21
                  have c21b1 : (t190 != 0) = false := bne_eq_false_iff_eq.mpr c21
                  clear c21
                  replace H := Option.bind_eq_some_iff.mp H
                  obtain ⟨⟨t195, t196, t197, t198, t199⟩, A220, H⟩ := H
                  replace H : (if t195.toList = ([] : List UInt8) then ((scan_Scan_Rest.f t196 t197 t198 t199).bind fun bt200 => (pleachlaw04_ScanKeeps.j1 kj3 a1 (bt200.1.toList != ([] : List UInt8)) bt200.2.1 bt200.2.2.1 bt200.2.2.2.1 bt200.2.2.2.2)) else (pleachlaw04_ScanKeeps.j1 kj3 a1 true t196 t197 t198 t199)) = some r := H
                  have A22 := Aside0.mk A220
                  clear A220
                  by_cases c23 : t195.toList = ([] : List UInt8)
                  · rw [if_pos c23] at H
                    have c23b0 : (t195.toList == ([] : List UInt8)) = true := beq_iff_eq.mpr c23
                    have c23b1 : (t195.toList != ([] : List UInt8)) = false := bne_eq_false_iff_eq.mpr c23
                    clear c23
                    replace H := Option.bind_eq_some_iff.mp H
                    obtain ⟨⟨t200, t201, t202, t203, t204⟩, A240, H⟩ := H
                    replace H : (pleachlaw04_ScanKeeps.j1 kj3 a1 (t200.toList != ([] : List UInt8)) t201 t202 t203 t204) = some r := H
                    have A24 := Aside0.mk A240
                    clear A240
                    have H' := Aside0.mk H
                    clear H
                    go_wp2_with (first | ((with_reducible refine gate_callee (f := 11) rfl ?_); refine goesL_ (some 23) rfl rfl Try.func11 (by kernel_rfl) rfl #[.pointer (some ⟨g170, 0, none⟩), .int .i64 a2] rfl (by (try simp only [List.map_toArray, List.map_cons, List.map_nil]); first | done | rfl | (simp only [List.length_drop, List.length_take]; rfl)) ?_; (with_reducible refine (scan_Scan_Fix.calls g170 t171 t172 t173 t174 a2 t175 t176 t177 t178 t179 w _ ?side1 ?side2 A14.out).mono ?_); (case side1 => repeat (first | (with_reducible first | exact HI170.out | apply IsS42.alloc | apply IsS42.drewN | apply IsS42.drew | apply IsS42.set_0 | apply IsS42.set_1 | apply IsS42.set_2 | apply IsS42.set_3) | exact HI170.out)); (case side2 => repeat (first | (with_reducible first | exact HB.out | apply below_alloc | apply pw_below_drewN | apply below_drew1 | refine below_set ?_ (IsS42.ge HI170.out)) | exact HB.out)); rintro e w25 ⟨rfl, hi, hb, hk⟩; refine ⟨_, rfl, ?_⟩; have n0_ := Aside0.mk (hb); have n1_ := Aside0.mk (hi); clear HB; clear HI170; have HB := n0_; have HI170 := n1_; clear n0_ n1_; (try clear hb); (try clear hb2); (try clear hk); (try clear hi)) | (go_at_call 12; (with_reducible refine (scan_Scan_Byte.calls g170 t176 t177 t178 t179 t180 t181 t182 t183 t184 w _ ?side1 ?side2 A16.out).mono ?_); (case side1 => repeat (first | (with_reducible first | exact HI170.out | apply IsS42.alloc | apply IsS42.drewN | apply IsS42.drew | apply IsS42.set_0 | apply IsS42.set_1 | apply IsS42.set_2 | apply IsS42.set_3) | exact HI170.out)); (case side2 => repeat (first | (with_reducible first | exact HB.out | apply below_alloc | apply pw_below_drewN | apply below_drew1 | refine below_set ?_ (IsS42.ge HI170.out)) | exact HB.out)); rintro e w26 ⟨rfl, hi, hb, hk⟩; have n0_ := Aside0.mk (hb); have n1_ := Aside0.mk (hi); clear HB; clear HI170; have HB := n0_; have HI170 := n1_; clear n0_ n1_; (try clear hb); (try clear hb2); (try clear hk); (try clear hi)) | (go_at_call 13; (with_reducible refine (scan_Scan_Num.calls g170 t181 t182 t183 t184 a2 t185 t186 t187 t188 t189 w _ ?side1 ?side2 A18.out).mono ?_); (case side1 => repeat (first | (with_reducible first | exact HI170.out | apply IsS42.alloc | apply IsS42.drewN | apply IsS42.drew | apply IsS42.set_0 | apply IsS42.set_1 | apply IsS42.set_2 | apply IsS42.set_3) | exact HI170.out)); (case side2 => repeat (first | (with_reducible first | exact HB.out | apply below_alloc | apply pw_below_drewN | apply below_drew1 | refine below_set ?_ (IsS42.ge HI170.out)) | exact HB.out)); rintro e w27 ⟨rfl, hi, hb, hk⟩; have n0_ := Aside0.mk (hb); have n1_ := Aside0.mk (hi); clear HB; clear HI170; have HB := n0_; have HI170 := n1_; clear n0_ n1_; (try clear hb); (try clear hb2); (try clear hk); (try clear hi)) | (go_at_call 14; (with_reducible refine (scan_Scan_Int.calls g170 t186 t187 t188 t189 t190 t191 t192 t193 t194 w _ ?side1 ?side2 A20.out).mono ?_); (case side1 => repeat (first | (with_reducible first | exact HI170.out | apply IsS42.alloc | apply IsS42.drewN | apply IsS42.drew | apply IsS42.set_0 | apply IsS42.set_1 | apply IsS42.set_2 | apply IsS42.set_3) | exact HI170.out)); (case side2 => repeat (first | (with_reducible first | exact HB.out | apply below_alloc | apply pw_below_drewN | apply below_drew1 | refine below_set ?_ (IsS42.ge HI170.out)) | exact HB.out)); rintro e w28 ⟨rfl, hi, hb, hk⟩; have n0_ := Aside0.mk (hb); have n1_ := Aside0.mk (hi); clear HB; clear HI170; have HB := n0_; have HI170 := n1_; clear n0_ n1_; (try clear hb); (try clear hb2); (try clear hk); (try clear hi)) | (go_at_call 15; (with_reducible refine (scan_Scan_Text.calls g170 t191 t192 t193 t194 a2 t195 t196 t197 t198 t199 w _ ?side1 ?side2 A22.out).mono ?_); (case side1 => repeat (first | (with_reducible first | exact HI170.out | apply IsS42.alloc | apply IsS42.drewN | apply IsS42.drew | apply IsS42.set_0 | apply IsS42.set_1 | apply IsS42.set_2 | apply IsS42.set_3) | exact HI170.out)); (case side2 => repeat (first | (with_reducible first | exact HB.out | apply below_alloc | apply pw_below_drewN | apply below_drew1 | refine below_set ?_ (IsS42.ge HI170.out)) | exact HB.out)); rintro e w29 ⟨rfl, hi, hb, hk⟩; have n0_ := Aside0.mk (hb); have n1_ := Aside0.mk (hi); clear HB; clear HI170; have HB := n0_; have HI170 := n1_; clear n0_ n1_; (try clear hb); (try clear hb2); (try clear hk); (try clear hi)) | (go_at_call 16; (with_reducible refine (scan_Scan_Rest.calls g170 t196 t197 t198 t199 t200 t201 t202 t203 t204 w _ ?side1 ?side2 A24.out).mono ?_); (case side1 => repeat (first | (with_reducible first | exact HI170.out | apply IsS42.alloc | apply IsS42.drewN | apply IsS42.drew | apply IsS42.set_0 | apply IsS42.set_1 | apply IsS42.set_2 | apply IsS42.set_3) | exact HI170.out)); (case side2 => repeat (first | (with_reducible first | exact HB.out | apply below_alloc | apply pw_below_drewN | apply below_drew1 | refine below_set ?_ (IsS42.ge HI170.out)) | exact HB.out)); rintro e w30 ⟨rfl, hi, hb, hk⟩; have n0_ := Aside0.mk (hb); have n1_ := Aside0.mk (hi); clear HB; clear HI170; have HB := n0_; have HI170 := n1_; clear n0_ n1_; (try clear hb); (try clear hb2); (try clear hk); (try clear hi)))
                    go_meet
                    case rel => exact ⟨_, ((t200.toList != ([] : List UInt8))), (t201), (t202), (t203), (t204), (by first | rfl | (simp; done) | (simp [*]; done) | (simp [M.isEmpty_bne]; done)), H', ⟨by have := HJ3.out; first | omega | exact Nat.le_refl _⟩, ⟨by repeat (first | (with_reducible first | exact HI170.out | apply IsS42.alloc | apply IsS42.drewN | apply IsS42.drew | apply IsS42.set_0 | apply IsS42.set_1 | apply IsS42.set_2 | apply IsS42.set_3) | exact HI170.out)⟩, ⟨by repeat (first | (with_reducible first | exact HB.out | apply below_alloc | apply pw_below_drewN | apply below_drew1 | refine below_set ?_ (IsS42.ge HI170.out)) | exact HB.out)⟩⟩
                  · rw [if_neg c23] at H
                    have c23b0 : (t195.toList == ([] : List UInt8)) = false := beq_eq_false_iff_ne.mpr c23
                    have c23b1 : (t195.toList != ([] : List UInt8)) = true := bne_iff_ne.mpr c23
                    have H' := Aside0.mk H
                    clear H
                    go_wp2_with (first | ((with_reducible refine gate_callee (f := 11) rfl ?_); refine goesL_ (some 23) rfl rfl Try.func11 (by kernel_rfl) rfl #[.pointer (some ⟨g170, 0, none⟩), .int .i64 a2] rfl (by (try simp only [List.map_toArray, List.map_cons, List.map_nil]); first | done | rfl | (simp only [List.length_drop, List.length_take]; rfl)) ?_; (with_reducible refine (scan_Scan_Fix.calls g170 t171 t172 t173 t174 a2 t175 t176 t177 t178 t179 w _ ?side1 ?side2 A14.out).mono ?_); (case side1 => repeat (first | (with_reducible first | exact HI170.out | apply IsS42.alloc | apply IsS42.drewN | apply IsS42.drew | apply IsS42.set_0 | apply IsS42.set_1 | apply IsS42.set_2 | apply IsS42.set_3) | exact HI170.out)); (case side2 => repeat (first | (with_reducible first | exact HB.out | apply below_alloc | apply pw_below_drewN | apply below_drew1 | refine below_set ?_ (IsS42.ge HI170.out)) | exact HB.out)); rintro e w31 ⟨rfl, hi, hb, hk⟩; refine ⟨_, rfl, ?_⟩; have n0_ := Aside0.mk (hb); have n1_ := Aside0.mk (hi); clear HB; clear HI170; have HB := n0_; have HI170 := n1_; clear n0_ n1_; (try clear hb); (try clear hb2); (try clear hk); (try clear hi)) | (go_at_call 12; (with_reducible refine (scan_Scan_Byte.calls g170 t176 t177 t178 t179 t180 t181 t182 t183 t184 w _ ?side1 ?side2 A16.out).mono ?_); (case side1 => repeat (first | (with_reducible first | exact HI170.out | apply IsS42.alloc | apply IsS42.drewN | apply IsS42.drew | apply IsS42.set_0 | apply IsS42.set_1 | apply IsS42.set_2 | apply IsS42.set_3) | exact HI170.out)); (case side2 => repeat (first | (with_reducible first | exact HB.out | apply below_alloc | apply pw_below_drewN | apply below_drew1 | refine below_set ?_ (IsS42.ge HI170.out)) | exact HB.out)); rintro e w32 ⟨rfl, hi, hb, hk⟩; have n0_ := Aside0.mk (hb); have n1_ := Aside0.mk (hi); clear HB; clear HI170; have HB := n0_; have HI170 := n1_; clear n0_ n1_; (try clear hb); (try clear hb2); (try clear hk); (try clear hi)) | (go_at_call 13; (with_reducible refine (scan_Scan_Num.calls g170 t181 t182 t183 t184 a2 t185 t186 t187 t188 t189 w _ ?side1 ?side2 A18.out).mono ?_); (case side1 => repeat (first | (with_reducible first | exact HI170.out | apply IsS42.alloc | apply IsS42.drewN | apply IsS42.drew | apply IsS42.set_0 | apply IsS42.set_1 | apply IsS42.set_2 | apply IsS42.set_3) | exact HI170.out)); (case side2 => repeat (first | (with_reducible first | exact HB.out | apply below_alloc | apply pw_below_drewN | apply below_drew1 | refine below_set ?_ (IsS42.ge HI170.out)) | exact HB.out)); rintro e w33 ⟨rfl, hi, hb, hk⟩; have n0_ := Aside0.mk (hb); have n1_ := Aside0.mk (hi); clear HB; clear HI170; have HB := n0_; have HI170 := n1_; clear n0_ n1_; (try clear hb); (try clear hb2); (try clear hk); (try clear hi)) | (go_at_call 14; (with_reducible refine (scan_Scan_Int.calls g170 t186 t187 t188 t189 t190 t191 t192 t193 t194 w _ ?side1 ?side2 A20.out).mono ?_); (case side1 => repeat (first | (with_reducible first | exact HI170.out | apply IsS42.alloc | apply IsS42.drewN | apply IsS42.drew | apply IsS42.set_0 | apply IsS42.set_1 | apply IsS42.set_2 | apply IsS42.set_3) | exact HI170.out)); (case side2 => repeat (first | (with_reducible first | exact HB.out | apply below_alloc | apply pw_below_drewN | apply below_drew1 | refine below_set ?_ (IsS42.ge HI170.out)) | exact HB.out)); rintro e w34 ⟨rfl, hi, hb, hk⟩; have n0_ := Aside0.mk (hb); have n1_ := Aside0.mk (hi); clear HB; clear HI170; have HB := n0_; have HI170 := n1_; clear n0_ n1_; (try clear hb); (try clear hb2); (try clear hk); (try clear hi)) | (go_at_call 15; (with_reducible refine (scan_Scan_Text.calls g170 t191 t192 t193 t194 a2 t195 t196 t197 t198 t199 w _ ?side1 ?side2 A22.out).mono ?_); (case side1 => repeat (first | (with_reducible first | exact HI170.out | apply IsS42.alloc | apply IsS42.drewN | apply IsS42.drew | apply IsS42.set_0 | apply IsS42.set_1 | apply IsS42.set_2 | apply IsS42.set_3) | exact HI170.out)); (case side2 => repeat (first | (with_reducible first | exact HB.out | apply below_alloc | apply pw_below_drewN | apply below_drew1 | refine below_set ?_ (IsS42.ge HI170.out)) | exact HB.out)); rintro e w35 ⟨rfl, hi, hb, hk⟩; have n0_ := Aside0.mk (hb); have n1_ := Aside0.mk (hi); clear HB; clear HI170; have HB := n0_; have HI170 := n1_; clear n0_ n1_; (try clear hb); (try clear hb2); (try clear hk); (try clear hi)))
                    go_meet
                    case rel => exact ⟨_, (true), (t196), (t197), (t198), (t199), (by first | rfl | (simp; done) | (simp [*]; done) | (simp [M.isEmpty_bne]; done)), H', ⟨by have := HJ3.out; first | omega | exact Nat.le_refl _⟩, ⟨by repeat (first | (with_reducible first | exact HI170.out | apply IsS42.alloc | apply IsS42.drewN | apply IsS42.drew | apply IsS42.set_0 | apply IsS42.set_1 | apply IsS42.set_2 | apply IsS42.set_3) | exact HI170.out)⟩, ⟨by repeat (first | (with_reducible first | exact HB.out | apply below_alloc | apply pw_below_drewN | apply below_drew1 | refine below_set ?_ (IsS42.ge HI170.out)) | exact HB.out)⟩⟩
                · rw [if_neg c21] at H
                  have c21b0 : (t190 == 0) = false := beq_eq_false_iff_ne.mpr c21
                  have c21b1 : (t190 != 0) = true := bne_iff_ne.mpr c21
                  have H' := Aside0.mk H
                  clear H
                  go_wp2_with (first | ((with_reducible refine gate_callee (f := 11) rfl ?_); refine goesL_ (some 23) rfl rfl Try.func11 (by kernel_rfl) rfl #[.pointer (some ⟨g170, 0, none⟩), .int .i64 a2] rfl (by (try simp only [List.map_toArray, List.map_cons, List.map_nil]); first | done | rfl | (simp only [List.length_drop, List.length_take]; rfl)) ?_; (with_reducible refine (scan_Scan_Fix.calls g170 t171 t172 t173 t174 a2 t175 t176 t177 t178 t179 w _ ?side1 ?side2 A14.out).mono ?_); (case side1 => repeat (first | (with_reducible first | exact HI170.out | apply IsS42.alloc | apply IsS42.drewN | apply IsS42.drew | apply IsS42.set_0 | apply IsS42.set_1 | apply IsS42.set_2 | apply IsS42.set_3) | exact HI170.out)); (case side2 => repeat (first | (with_reducible first | exact HB.out | apply below_alloc | apply pw_below_drewN | apply below_drew1 | refine below_set ?_ (IsS42.ge HI170.out)) | exact HB.out)); rintro e w36 ⟨rfl, hi, hb, hk⟩; refine ⟨_, rfl, ?_⟩; have n0_ := Aside0.mk (hb); have n1_ := Aside0.mk (hi); clear HB; clear HI170; have HB := n0_; have HI170 := n1_; clear n0_ n1_; (try clear hb); (try clear hb2); (try clear hk); (try clear hi)) | (go_at_call 12; (with_reducible refine (scan_Scan_Byte.calls g170 t176 t177 t178 t179 t180 t181 t182 t183 t184 w _ ?side1 ?side2 A16.out).mono ?_); (case side1 => repeat (first | (with_reducible first | exact HI170.out | apply IsS42.alloc | apply IsS42.drewN | apply IsS42.drew | apply IsS42.set_0 | apply IsS42.set_1 | apply IsS42.set_2 | apply IsS42.set_3) | exact HI170.out)); (case side2 => repeat (first | (with_reducible first | exact HB.out | apply below_alloc | apply pw_below_drewN | apply below_drew1 | refine below_set ?_ (IsS42.ge HI170.out)) | exact HB.out)); rintro e w37 ⟨rfl, hi, hb, hk⟩; have n0_ := Aside0.mk (hb); have n1_ := Aside0.mk (hi); clear HB; clear HI170; have HB := n0_; have HI170 := n1_; clear n0_ n1_; (try clear hb); (try clear hb2); (try clear hk); (try clear hi)) | (go_at_call 13; (with_reducible refine (scan_Scan_Num.calls g170 t181 t182 t183 t184 a2 t185 t186 t187 t188 t189 w _ ?side1 ?side2 A18.out).mono ?_); (case side1 => repeat (first | (with_reducible first | exact HI170.out | apply IsS42.alloc | apply IsS42.drewN | apply IsS42.drew | apply IsS42.set_0 | apply IsS42.set_1 | apply IsS42.set_2 | apply IsS42.set_3) | exact HI170.out)); (case side2 => repeat (first | (with_reducible first | exact HB.out | apply below_alloc | apply pw_below_drewN | apply below_drew1 | refine below_set ?_ (IsS42.ge HI170.out)) | exact HB.out)); rintro e w38 ⟨rfl, hi, hb, hk⟩; have n0_ := Aside0.mk (hb); have n1_ := Aside0.mk (hi); clear HB; clear HI170; have HB := n0_; have HI170 := n1_; clear n0_ n1_; (try clear hb); (try clear hb2); (try clear hk); (try clear hi)) | (go_at_call 14; (with_reducible refine (scan_Scan_Int.calls g170 t186 t187 t188 t189 t190 t191 t192 t193 t194 w _ ?side1 ?side2 A20.out).mono ?_); (case side1 => repeat (first | (with_reducible first | exact HI170.out | apply IsS42.alloc | apply IsS42.drewN | apply IsS42.drew | apply IsS42.set_0 | apply IsS42.set_1 | apply IsS42.set_2 | apply IsS42.set_3) | exact HI170.out)); (case side2 => repeat (first | (with_reducible first | exact HB.out | apply below_alloc | apply pw_below_drewN | apply below_drew1 | refine below_set ?_ (IsS42.ge HI170.out)) | exact HB.out)); rintro e w39 ⟨rfl, hi, hb, hk⟩; have n0_ := Aside0.mk (hb); have n1_ := Aside0.mk (hi); clear HB; clear HI170; have HB := n0_; have HI170 := n1_; clear n0_ n1_; (try clear hb); (try clear hb2); (try clear hk); (try clear hi)))
                  go_meet
                  case rel => exact ⟨_, (true), (t191), (t192), (t193), (t194), (by first | rfl | (simp; done) | (simp [*]; done) | (simp [M.isEmpty_bne]; done)), H', ⟨by have := HJ3.out; first | omega | exact Nat.le_refl _⟩, ⟨by repeat (first | (with_reducible first | exact HI170.out | apply IsS42.alloc | apply IsS42.drewN | apply IsS42.drew | apply IsS42.set_0 | apply IsS42.set_1 | apply IsS42.set_2 | apply IsS42.set_3) | exact HI170.out)⟩, ⟨by repeat (first | (with_reducible first | exact HB.out | apply below_alloc | apply pw_below_drewN | apply below_drew1 | refine below_set ?_ (IsS42.ge HI170.out)) | exact HB.out)⟩⟩
              · rw [if_neg c19] at H
                have c19b0 : (t185 == 0) = false := beq_eq_false_iff_ne.mpr c19
                have c19b1 : (t185 != 0) = true := bne_iff_ne.mpr c19
                have H' := Aside0.mk H
                clear H
                go_wp2_with (first | ((with_reducible refine gate_callee (f := 11) rfl ?_); refine goesL_ (some 23) rfl rfl Try.func11 (by kernel_rfl) rfl #[.pointer (some ⟨g170, 0, none⟩), .int .i64 a2] rfl (by (try simp only [List.map_toArray, List.map_cons, List.map_nil]); first | done | rfl | (simp only [List.length_drop, List.length_take]; rfl)) ?_; (with_reducible refine (scan_Scan_Fix.calls g170 t171 t172 t173 t174 a2 t175 t176 t177 t178 t179 w _ ?side1 ?side2 A14.out).mono ?_); (case side1 => repeat (first | (with_reducible first | exact HI170.out | apply IsS42.alloc | apply IsS42.drewN | apply IsS42.drew | apply IsS42.set_0 | apply IsS42.set_1 | apply IsS42.set_2 | apply IsS42.set_3) | exact HI170.out)); (case side2 => repeat (first | (with_reducible first | exact HB.out | apply below_alloc | apply pw_below_drewN | apply below_drew1 | refine below_set ?_ (IsS42.ge HI170.out)) | exact HB.out)); rintro e w40 ⟨rfl, hi, hb, hk⟩; refine ⟨_, rfl, ?_⟩; have n0_ := Aside0.mk (hb); have n1_ := Aside0.mk (hi); clear HB; clear HI170; have HB := n0_; have HI170 := n1_; clear n0_ n1_; (try clear hb); (try clear hb2); (try clear hk); (try clear hi)) | (go_at_call 12; (with_reducible refine (scan_Scan_Byte.calls g170 t176 t177 t178 t179 t180 t181 t182 t183 t184 w _ ?side1 ?side2 A16.out).mono ?_); (case side1 => repeat (first | (with_reducible first | exact HI170.out | apply IsS42.alloc | apply IsS42.drewN | apply IsS42.drew | apply IsS42.set_0 | apply IsS42.set_1 | apply IsS42.set_2 | apply IsS42.set_3) | exact HI170.out)); (case side2 => repeat (first | (with_reducible first | exact HB.out | apply below_alloc | apply pw_below_drewN | apply below_drew1 | refine below_set ?_ (IsS42.ge HI170.out)) | exact HB.out)); rintro e w41 ⟨rfl, hi, hb, hk⟩; have n0_ := Aside0.mk (hb); have n1_ := Aside0.mk (hi); clear HB; clear HI170; have HB := n0_; have HI170 := n1_; clear n0_ n1_; (try clear hb); (try clear hb2); (try clear hk); (try clear hi)) | (go_at_call 13; (with_reducible refine (scan_Scan_Num.calls g170 t181 t182 t183 t184 a2 t185 t186 t187 t188 t189 w _ ?side1 ?side2 A18.out).mono ?_); (case side1 => repeat (first | (with_reducible first | exact HI170.out | apply IsS42.alloc | apply IsS42.drewN | apply IsS42.drew | apply IsS42.set_0 | apply IsS42.set_1 | apply IsS42.set_2 | apply IsS42.set_3) | exact HI170.out)); (case side2 => repeat (first | (with_reducible first | exact HB.out | apply below_alloc | apply pw_below_drewN | apply below_drew1 | refine below_set ?_ (IsS42.ge HI170.out)) | exact HB.out)); rintro e w42 ⟨rfl, hi, hb, hk⟩; have n0_ := Aside0.mk (hb); have n1_ := Aside0.mk (hi); clear HB; clear HI170; have HB := n0_; have HI170 := n1_; clear n0_ n1_; (try clear hb); (try clear hb2); (try clear hk); (try clear hi)))
                go_meet
                case rel => exact ⟨_, (true), (t186), (t187), (t188), (t189), (by first | rfl | (simp; done) | (simp [*]; done) | (simp [M.isEmpty_bne]; done)), H', ⟨by have := HJ3.out; first | omega | exact Nat.le_refl _⟩, ⟨by repeat (first | (with_reducible first | exact HI170.out | apply IsS42.alloc | apply IsS42.drewN | apply IsS42.drew | apply IsS42.set_0 | apply IsS42.set_1 | apply IsS42.set_2 | apply IsS42.set_3) | exact HI170.out)⟩, ⟨by repeat (first | (with_reducible first | exact HB.out | apply below_alloc | apply pw_below_drewN | apply below_drew1 | refine below_set ?_ (IsS42.ge HI170.out)) | exact HB.out)⟩⟩
            · rw [if_neg c17] at H
              have c17b0 : (t180 == 0) = false := beq_eq_false_iff_ne.mpr c17
              have c17b1 : (t180 != 0) = true := bne_iff_ne.mpr c17
              have H' := Aside0.mk H
              clear H
              go_wp2_with (first | ((with_reducible refine gate_callee (f := 11) rfl ?_); refine goesL_ (some 23) rfl rfl Try.func11 (by kernel_rfl) rfl #[.pointer (some ⟨g170, 0, none⟩), .int .i64 a2] rfl (by (try simp only [List.map_toArray, List.map_cons, List.map_nil]); first | done | rfl | (simp only [List.length_drop, List.length_take]; rfl)) ?_; (with_reducible refine (scan_Scan_Fix.calls g170 t171 t172 t173 t174 a2 t175 t176 t177 t178 t179 w _ ?side1 ?side2 A14.out).mono ?_); (case side1 => repeat (first | (with_reducible first | exact HI170.out | apply IsS42.alloc | apply IsS42.drewN | apply IsS42.drew | apply IsS42.set_0 | apply IsS42.set_1 | apply IsS42.set_2 | apply IsS42.set_3) | exact HI170.out)); (case side2 => repeat (first | (with_reducible first | exact HB.out | apply below_alloc | apply pw_below_drewN | apply below_drew1 | refine below_set ?_ (IsS42.ge HI170.out)) | exact HB.out)); rintro e w43 ⟨rfl, hi, hb, hk⟩; refine ⟨_, rfl, ?_⟩; have n0_ := Aside0.mk (hb); have n1_ := Aside0.mk (hi); clear HB; clear HI170; have HB := n0_; have HI170 := n1_; clear n0_ n1_; (try clear hb); (try clear hb2); (try clear hk); (try clear hi)) | (go_at_call 12; (with_reducible refine (scan_Scan_Byte.calls g170 t176 t177 t178 t179 t180 t181 t182 t183 t184 w _ ?side1 ?side2 A16.out).mono ?_); (case side1 => repeat (first | (with_reducible first | exact HI170.out | apply IsS42.alloc | apply IsS42.drewN | apply IsS42.drew | apply IsS42.set_0 | apply IsS42.set_1 | apply IsS42.set_2 | apply IsS42.set_3) | exact HI170.out)); (case side2 => repeat (first | (with_reducible first | exact HB.out | apply below_alloc | apply pw_below_drewN | apply below_drew1 | refine below_set ?_ (IsS42.ge HI170.out)) | exact HB.out)); rintro e w44 ⟨rfl, hi, hb, hk⟩; have n0_ := Aside0.mk (hb); have n1_ := Aside0.mk (hi); clear HB; clear HI170; have HB := n0_; have HI170 := n1_; clear n0_ n1_; (try clear hb); (try clear hb2); (try clear hk); (try clear hi)))
              go_meet
              case rel => exact ⟨_, (true), (t181), (t182), (t183), (t184), (by first | rfl | (simp; done) | (simp [*]; done) | (simp [M.isEmpty_bne]; done)), H', ⟨by have := HJ3.out; first | omega | exact Nat.le_refl _⟩, ⟨by repeat (first | (with_reducible first | exact HI170.out | apply IsS42.alloc | apply IsS42.drewN | apply IsS42.drew | apply IsS42.set_0 | apply IsS42.set_1 | apply IsS42.set_2 | apply IsS42.set_3) | exact HI170.out)⟩, ⟨by repeat (first | (with_reducible first | exact HB.out | apply below_alloc | apply pw_below_drewN | apply below_drew1 | refine below_set ?_ (IsS42.ge HI170.out)) | exact HB.out)⟩⟩
          · rw [if_neg c15] at H
            have c15b0 : (t175.toList == ([] : List UInt8)) = false := beq_eq_false_iff_ne.mpr c15
            have c15b1 : (t175.toList != ([] : List UInt8)) = true := bne_iff_ne.mpr c15
            (first | rw [c15b0] | (simp only [i64_w, i32_w]; rw [c15b0]) | skip)
            have H' := Aside0.mk H
            clear H
            go_wp2_with (first | ((with_reducible refine gate_callee (f := 11) rfl ?_); refine goesL_ (some 23) rfl rfl Try.func11 (by kernel_rfl) rfl #[.pointer (some ⟨g170, 0, none⟩), .int .i64 a2] rfl (by (try simp only [List.map_toArray, List.map_cons, List.map_nil]); first | done | rfl | (simp only [List.length_drop, List.length_take]; rfl)) ?_; (with_reducible refine (scan_Scan_Fix.calls g170 t171 t172 t173 t174 a2 t175 t176 t177 t178 t179 w _ ?side1 ?side2 A14.out).mono ?_); (case side1 => repeat (first | (with_reducible first | exact HI170.out | apply IsS42.alloc | apply IsS42.drewN | apply IsS42.drew | apply IsS42.set_0 | apply IsS42.set_1 | apply IsS42.set_2 | apply IsS42.set_3) | exact HI170.out)); (case side2 => repeat (first | (with_reducible first | exact HB.out | apply below_alloc | apply pw_below_drewN | apply below_drew1 | refine below_set ?_ (IsS42.ge HI170.out)) | exact HB.out)); rintro e w45 ⟨rfl, hi, hb, hk⟩; refine ⟨_, rfl, ?_⟩; have n0_ := Aside0.mk (hb); have n1_ := Aside0.mk (hi); clear HB; clear HI170; have HB := n0_; have HI170 := n1_; clear n0_ n1_; (try clear hb); (try clear hb2); (try clear hk); (try clear hi)))
            go_meet
            case rel => exact ⟨_, (true), (t176), (t177), (t178), (t179), (by first | rfl | (simp; done) | (simp [*]; done) | (simp [M.isEmpty_bne]; done)), H', ⟨by have := HJ3.out; first | omega | exact Nat.le_refl _⟩, ⟨by repeat (first | (with_reducible first | exact HI170.out | apply IsS42.alloc | apply IsS42.drewN | apply IsS42.drew | apply IsS42.set_0 | apply IsS42.set_1 | apply IsS42.set_2 | apply IsS42.set_3) | exact HI170.out)⟩, ⟨by repeat (first | (with_reducible first | exact HB.out | apply below_alloc | apply pw_below_drewN | apply below_drew1 | refine below_set ?_ (IsS42.ge HI170.out)) | exact HB.out)⟩⟩
        case rest =>
          clear HC11
          try clear c1
          try clear c2
          try clear p2
          try clear c4
          try clear c5
          try clear c5b0
          try clear c5b1
          try clear c6
          try clear c7
          try clear c8
          try clear c10
          try clear c11
          try clear c15
          try clear c15b0
          try clear c15b1
          try clear c17
          try clear c17b0
          try clear c17b1
          try clear c19
          try clear c19b0
          try clear c19b1
          try clear c21
          try clear c21b0
          try clear c21b1
          try clear c23
          try clear c23b0
          try clear c23b1
          try clear p2
          obtain ⟨kq, x51_10, x171000_10, x171001_10, x171002_10, x171003_10, rfl, HA, HJ10, HI170, HB⟩ := hcut
          cases kq with
          | zero => exact absurd HA.out (by simp [pleachlaw04_ScanKeeps.j1])
          | succ kj10 =>
            have H := HA.out
            clear HA
            simp only [pleachlaw04_ScanKeeps.j1] at H
            by_cases c46 : x51_10 = true
            · subst c46
              have H1 : (some false) = some r := by rw [if_pos rfl] at H; exact H
              clear H
              have H := H1
              clear H1
              obtain rfl := Option.some.inj H
              go_wp2
              go_ret
              exact ⟨by first | rfl | (simp [errW_none, errW_some] <;> rfl) | (simp [*, errW_none, errW_some] <;> rfl), by repeat (first | (with_reducible first | exact HB.out | apply below_alloc | apply pw_below_drewN | apply below_drew1 | refine below_set ?_ (IsS42.ge HI170.out)) | exact HB.out)⟩
            · replace c46 := Bool.eq_false_iff.mpr c46
              subst c46
              have H1 : ((scan_Scan_Fail.f x171000_10 x171001_10 x171002_10 x171003_10 2).bind fun bt205 => ((scan_Scan_End.f bt205.1 bt205.2.1 bt205.2.2.1 bt205.2.2.2).bind fun bt209 => (if bt209.1 = a1 then ((scan_Scan_Err.f bt209.2.1 bt209.2.2.1 bt209.2.2.2.1 bt209.2.2.2.2).bind fun bt214 => (if bt214.1 = a1 then ((scan_Scan_At.f bt214.2.1 bt214.2.2.1 bt214.2.2.2.1 bt214.2.2.2.2).bind fun bt219 => (if bt219.1 = 0 then ((pleachlaw04_awake.f).bind fun t224 => (some t224)) else (some false))) else (some false))) else (some false)))) = some r := by rw [if_neg (show ¬ (false = true) by decide)] at H; exact H
              clear H
              have H := H1
              clear H1
              replace H := Option.bind_eq_some_iff.mp H
              obtain ⟨⟨t205, t206, t207, t208⟩, A470, H⟩ := H
              replace H : ((scan_Scan_End.f t205 t206 t207 t208).bind fun bt209 => (if bt209.1 = a1 then ((scan_Scan_Err.f bt209.2.1 bt209.2.2.1 bt209.2.2.2.1 bt209.2.2.2.2).bind fun bt214 => (if bt214.1 = a1 then ((scan_Scan_At.f bt214.2.1 bt214.2.2.1 bt214.2.2.2.1 bt214.2.2.2.2).bind fun bt219 => (if bt219.1 = 0 then ((pleachlaw04_awake.f).bind fun t224 => (some t224)) else (some false))) else (some false))) else (some false))) = some r := H
              have A47 := Aside0.mk A470
              clear A470
              replace H := Option.bind_eq_some_iff.mp H
              obtain ⟨⟨t209, t210, t211, t212, t213⟩, A480, H⟩ := H
              replace H : (if t209 = a1 then ((scan_Scan_Err.f t210 t211 t212 t213).bind fun bt214 => (if bt214.1 = a1 then ((scan_Scan_At.f bt214.2.1 bt214.2.2.1 bt214.2.2.2.1 bt214.2.2.2.2).bind fun bt219 => (if bt219.1 = 0 then ((pleachlaw04_awake.f).bind fun t224 => (some t224)) else (some false))) else (some false))) else (some false)) = some r := H
              have A48 := Aside0.mk A480
              clear A480
              by_cases c49 : t209 = a1
              · rw [if_pos c49] at H
                have c49b0 : (t209 == a1) = true := beq_iff_eq.mpr c49
                have c49b1 : (t209 != a1) = false := bne_eq_false_iff_eq.mpr c49
                clear c49
                replace H := Option.bind_eq_some_iff.mp H
                obtain ⟨⟨t214, t215, t216, t217, t218⟩, A500, H⟩ := H
                replace H : (if t214 = a1 then ((scan_Scan_At.f t215 t216 t217 t218).bind fun bt219 => (if bt219.1 = 0 then ((pleachlaw04_awake.f).bind fun t224 => (some t224)) else (some false))) else (some false)) = some r := H
                have A50 := Aside0.mk A500
                clear A500
                by_cases c51 : t214 = a1
                · rw [if_pos c51] at H
                  have c51b0 : (t214 == a1) = true := beq_iff_eq.mpr c51
                  have c51b1 : (t214 != a1) = false := bne_eq_false_iff_eq.mpr c51
                  clear c51
                  replace H := Option.bind_eq_some_iff.mp H
                  obtain ⟨⟨t219, t220, t221, t222, t223⟩, A520, H⟩ := H
                  replace H : (if t219 = 0 then ((pleachlaw04_awake.f).bind fun t224 => (some t224)) else (some false)) = some r := H
                  have A52 := Aside0.mk A520
                  clear A520
                  by_cases c53 : t219 = 0
                  · rw [if_pos c53] at H
                    have c53b0 : (t219 == 0) = true := beq_iff_eq.mpr c53
                    have c53b1 : (t219 != 0) = false := bne_eq_false_iff_eq.mpr c53
                    clear c53
                    replace H := Option.bind_eq_some_iff.mp H
                    obtain ⟨t224, A540, H⟩ := H
                    replace H : (some t224) = some r := H
                    have A54 := Aside0.mk A540
                    clear A540
                    obtain rfl := Option.some.inj H
                    go_wp2_with (first | ((with_reducible refine gate_callee (f := 10) rfl ?_); refine goesL_ (some 53) rfl rfl Try.func10 (by kernel_rfl) rfl #[.pointer (some ⟨g170, 0, none⟩), .int .i64 2] rfl (by (try simp only [List.map_toArray, List.map_cons, List.map_nil]); first | done | rfl | (simp only [List.length_drop, List.length_take]; rfl)) ?_; (with_reducible refine (scan_Scan_Fail.calls g170 x171000_10 x171001_10 x171002_10 x171003_10 2 t205 t206 t207 t208 w _ ?side1 ?side2 A47.out).mono ?_); (case side1 => repeat (first | (with_reducible first | exact HI170.out | apply IsS42.alloc | apply IsS42.drewN | apply IsS42.drew | apply IsS42.set_0 | apply IsS42.set_1 | apply IsS42.set_2 | apply IsS42.set_3) | exact HI170.out)); (case side2 => repeat (first | (with_reducible first | exact HB.out | apply below_alloc | apply pw_below_drewN | apply below_drew1 | refine below_set ?_ (IsS42.ge HI170.out)) | exact HB.out)); rintro e w55 ⟨rfl, hi, hb, hk⟩; refine ⟨_, rfl, ?_⟩; have n0_ := Aside0.mk (hb); have n1_ := Aside0.mk (hi); clear HB; clear HI170; have HB := n0_; have HI170 := n1_; clear n0_ n1_; (try clear hb); (try clear hb2); (try clear hk); (try clear hi)) | ((with_reducible refine gate_callee (f := 17) rfl ?_); refine goesL_ (some 55) rfl rfl Try.func17 (by kernel_rfl) rfl #[.pointer (some ⟨g170, 0, none⟩)] rfl (by (try simp only [List.map_toArray, List.map_cons, List.map_nil]); first | done | rfl | (simp only [List.length_drop, List.length_take]; rfl)) ?_; (with_reducible refine (scan_Scan_End.calls g170 t205 t206 t207 t208 t209 t210 t211 t212 t213 w _ ?side1 ?side2 A48.out).mono ?_); (case side1 => repeat (first | (with_reducible first | exact HI170.out | apply IsS42.alloc | apply IsS42.drewN | apply IsS42.drew | apply IsS42.set_0 | apply IsS42.set_1 | apply IsS42.set_2 | apply IsS42.set_3) | exact HI170.out)); (case side2 => repeat (first | (with_reducible first | exact HB.out | apply below_alloc | apply pw_below_drewN | apply below_drew1 | refine below_set ?_ (IsS42.ge HI170.out)) | exact HB.out)); rintro e w56 ⟨rfl, hi, hb, hk⟩; refine ⟨_, rfl, ?_⟩; have n0_ := Aside0.mk (hb); have n1_ := Aside0.mk (hi); clear HB; clear HI170; have HB := n0_; have HI170 := n1_; clear n0_ n1_; (try clear hb); (try clear hb2); (try clear hk); (try clear hi)) | (go_at_call 18; (with_reducible refine (scan_Scan_Err.calls g170 t210 t211 t212 t213 t214 t215 t216 t217 t218 w _ ?side1 ?side2 A50.out).mono ?_); (case side1 => repeat (first | (with_reducible first | exact HI170.out | apply IsS42.alloc | apply IsS42.drewN | apply IsS42.drew | apply IsS42.set_0 | apply IsS42.set_1 | apply IsS42.set_2 | apply IsS42.set_3) | exact HI170.out)); (case side2 => repeat (first | (with_reducible first | exact HB.out | apply below_alloc | apply pw_below_drewN | apply below_drew1 | refine below_set ?_ (IsS42.ge HI170.out)) | exact HB.out)); rintro e w57 ⟨rfl, hi, hb, hk⟩; have n0_ := Aside0.mk (hb); have n1_ := Aside0.mk (hi); clear HB; clear HI170; have HB := n0_; have HI170 := n1_; clear n0_ n1_; (try clear hb); (try clear hb2); (try clear hk); (try clear hi)) | (go_at_call 19; (with_reducible refine (scan_Scan_At.calls g170 t215 t216 t217 t218 t219 t220 t221 t222 t223 w _ ?side1 ?side2 A52.out).mono ?_); (case side1 => repeat (first | (with_reducible first | exact HI170.out | apply IsS42.alloc | apply IsS42.drewN | apply IsS42.drew | apply IsS42.set_0 | apply IsS42.set_1 | apply IsS42.set_2 | apply IsS42.set_3) | exact HI170.out)); (case side2 => repeat (first | (with_reducible first | exact HB.out | apply below_alloc | apply pw_below_drewN | apply below_drew1 | refine below_set ?_ (IsS42.ge HI170.out)) | exact HB.out)); rintro e w58 ⟨rfl, hi, hb, hk⟩; have n0_ := Aside0.mk (hb); have n1_ := Aside0.mk (hi); clear HB; clear HI170; have HB := n0_; have HI170 := n1_; clear n0_ n1_; (try clear hb); (try clear hb2); (try clear hk); (try clear hi)) | (go_at_call 7; (with_reducible refine (pleachlaw04_awake.calls  t224 _ A54.out).mono ?_); rintro e w59 ⟨rfl, hb⟩; have n0_ := Aside0.mk (IsS42.below (by repeat (first | (with_reducible first | exact HI170.out | apply IsS42.alloc | apply IsS42.drewN | apply IsS42.drew | apply IsS42.set_0 | apply IsS42.set_1 | apply IsS42.set_2 | apply IsS42.set_3) | exact HI170.out)) hb); have n1_ := Aside0.mk (below_step (by repeat (first | (with_reducible first | exact HB.out | apply below_alloc | apply pw_below_drewN | apply below_drew1 | refine below_set ?_ (IsS42.ge HI170.out)) | exact HB.out)) hb); clear HI170; clear HB; have HI170 := n0_; have HB := n1_; clear n0_ n1_; (try clear hb); (try clear hb2); (try clear hk); (try clear hi)))
                    go_ret
                    exact ⟨by first | rfl | (simp [errW_none, errW_some] <;> rfl) | (simp [*, errW_none, errW_some] <;> rfl), by repeat (first | (with_reducible first | exact HB.out | apply below_alloc | apply pw_below_drewN | apply below_drew1 | refine below_set ?_ (IsS42.ge HI170.out)) | exact HB.out)⟩
                  · rw [if_neg c53] at H
                    have c53b0 : (t219 == 0) = false := beq_eq_false_iff_ne.mpr c53
                    have c53b1 : (t219 != 0) = true := bne_iff_ne.mpr c53
                    obtain rfl := Option.some.inj H
                    go_wp2_with (first | ((with_reducible refine gate_callee (f := 10) rfl ?_); refine goesL_ (some 53) rfl rfl Try.func10 (by kernel_rfl) rfl #[.pointer (some ⟨g170, 0, none⟩), .int .i64 2] rfl (by (try simp only [List.map_toArray, List.map_cons, List.map_nil]); first | done | rfl | (simp only [List.length_drop, List.length_take]; rfl)) ?_; (with_reducible refine (scan_Scan_Fail.calls g170 x171000_10 x171001_10 x171002_10 x171003_10 2 t205 t206 t207 t208 w _ ?side1 ?side2 A47.out).mono ?_); (case side1 => repeat (first | (with_reducible first | exact HI170.out | apply IsS42.alloc | apply IsS42.drewN | apply IsS42.drew | apply IsS42.set_0 | apply IsS42.set_1 | apply IsS42.set_2 | apply IsS42.set_3) | exact HI170.out)); (case side2 => repeat (first | (with_reducible first | exact HB.out | apply below_alloc | apply pw_below_drewN | apply below_drew1 | refine below_set ?_ (IsS42.ge HI170.out)) | exact HB.out)); rintro e w60 ⟨rfl, hi, hb, hk⟩; refine ⟨_, rfl, ?_⟩; have n0_ := Aside0.mk (hb); have n1_ := Aside0.mk (hi); clear HB; clear HI170; have HB := n0_; have HI170 := n1_; clear n0_ n1_; (try clear hb); (try clear hb2); (try clear hk); (try clear hi)) | ((with_reducible refine gate_callee (f := 17) rfl ?_); refine goesL_ (some 55) rfl rfl Try.func17 (by kernel_rfl) rfl #[.pointer (some ⟨g170, 0, none⟩)] rfl (by (try simp only [List.map_toArray, List.map_cons, List.map_nil]); first | done | rfl | (simp only [List.length_drop, List.length_take]; rfl)) ?_; (with_reducible refine (scan_Scan_End.calls g170 t205 t206 t207 t208 t209 t210 t211 t212 t213 w _ ?side1 ?side2 A48.out).mono ?_); (case side1 => repeat (first | (with_reducible first | exact HI170.out | apply IsS42.alloc | apply IsS42.drewN | apply IsS42.drew | apply IsS42.set_0 | apply IsS42.set_1 | apply IsS42.set_2 | apply IsS42.set_3) | exact HI170.out)); (case side2 => repeat (first | (with_reducible first | exact HB.out | apply below_alloc | apply pw_below_drewN | apply below_drew1 | refine below_set ?_ (IsS42.ge HI170.out)) | exact HB.out)); rintro e w61 ⟨rfl, hi, hb, hk⟩; refine ⟨_, rfl, ?_⟩; have n0_ := Aside0.mk (hb); have n1_ := Aside0.mk (hi); clear HB; clear HI170; have HB := n0_; have HI170 := n1_; clear n0_ n1_; (try clear hb); (try clear hb2); (try clear hk); (try clear hi)) | (go_at_call 18; (with_reducible refine (scan_Scan_Err.calls g170 t210 t211 t212 t213 t214 t215 t216 t217 t218 w _ ?side1 ?side2 A50.out).mono ?_); (case side1 => repeat (first | (with_reducible first | exact HI170.out | apply IsS42.alloc | apply IsS42.drewN | apply IsS42.drew | apply IsS42.set_0 | apply IsS42.set_1 | apply IsS42.set_2 | apply IsS42.set_3) | exact HI170.out)); (case side2 => repeat (first | (with_reducible first | exact HB.out | apply below_alloc | apply pw_below_drewN | apply below_drew1 | refine below_set ?_ (IsS42.ge HI170.out)) | exact HB.out)); rintro e w62 ⟨rfl, hi, hb, hk⟩; have n0_ := Aside0.mk (hb); have n1_ := Aside0.mk (hi); clear HB; clear HI170; have HB := n0_; have HI170 := n1_; clear n0_ n1_; (try clear hb); (try clear hb2); (try clear hk); (try clear hi)) | (go_at_call 19; (with_reducible refine (scan_Scan_At.calls g170 t215 t216 t217 t218 t219 t220 t221 t222 t223 w _ ?side1 ?side2 A52.out).mono ?_); (case side1 => repeat (first | (with_reducible first | exact HI170.out | apply IsS42.alloc | apply IsS42.drewN | apply IsS42.drew | apply IsS42.set_0 | apply IsS42.set_1 | apply IsS42.set_2 | apply IsS42.set_3) | exact HI170.out)); (case side2 => repeat (first | (with_reducible first | exact HB.out | apply below_alloc | apply pw_below_drewN | apply below_drew1 | refine below_set ?_ (IsS42.ge HI170.out)) | exact HB.out)); rintro e w63 ⟨rfl, hi, hb, hk⟩; have n0_ := Aside0.mk (hb); have n1_ := Aside0.mk (hi); clear HB; clear HI170; have HB := n0_; have HI170 := n1_; clear n0_ n1_; (try clear hb); (try clear hb2); (try clear hk); (try clear hi)))
                    go_ret
                    exact ⟨by first | rfl | (simp [errW_none, errW_some] <;> rfl) | (simp [*, errW_none, errW_some] <;> rfl), by repeat (first | (with_reducible first | exact HB.out | apply below_alloc | apply pw_below_drewN | apply below_drew1 | refine below_set ?_ (IsS42.ge HI170.out)) | exact HB.out)⟩
                · rw [if_neg c51] at H
                  have c51b0 : (t214 == a1) = false := beq_eq_false_iff_ne.mpr c51
                  have c51b1 : (t214 != a1) = true := bne_iff_ne.mpr c51
                  obtain rfl := Option.some.inj H
                  go_wp2_with (first | ((with_reducible refine gate_callee (f := 10) rfl ?_); refine goesL_ (some 53) rfl rfl Try.func10 (by kernel_rfl) rfl #[.pointer (some ⟨g170, 0, none⟩), .int .i64 2] rfl (by (try simp only [List.map_toArray, List.map_cons, List.map_nil]); first | done | rfl | (simp only [List.length_drop, List.length_take]; rfl)) ?_; (with_reducible refine (scan_Scan_Fail.calls g170 x171000_10 x171001_10 x171002_10 x171003_10 2 t205 t206 t207 t208 w _ ?side1 ?side2 A47.out).mono ?_); (case side1 => repeat (first | (with_reducible first | exact HI170.out | apply IsS42.alloc | apply IsS42.drewN | apply IsS42.drew | apply IsS42.set_0 | apply IsS42.set_1 | apply IsS42.set_2 | apply IsS42.set_3) | exact HI170.out)); (case side2 => repeat (first | (with_reducible first | exact HB.out | apply below_alloc | apply pw_below_drewN | apply below_drew1 | refine below_set ?_ (IsS42.ge HI170.out)) | exact HB.out)); rintro e w64 ⟨rfl, hi, hb, hk⟩; refine ⟨_, rfl, ?_⟩; have n0_ := Aside0.mk (hb); have n1_ := Aside0.mk (hi); clear HB; clear HI170; have HB := n0_; have HI170 := n1_; clear n0_ n1_; (try clear hb); (try clear hb2); (try clear hk); (try clear hi)) | ((with_reducible refine gate_callee (f := 17) rfl ?_); refine goesL_ (some 55) rfl rfl Try.func17 (by kernel_rfl) rfl #[.pointer (some ⟨g170, 0, none⟩)] rfl (by (try simp only [List.map_toArray, List.map_cons, List.map_nil]); first | done | rfl | (simp only [List.length_drop, List.length_take]; rfl)) ?_; (with_reducible refine (scan_Scan_End.calls g170 t205 t206 t207 t208 t209 t210 t211 t212 t213 w _ ?side1 ?side2 A48.out).mono ?_); (case side1 => repeat (first | (with_reducible first | exact HI170.out | apply IsS42.alloc | apply IsS42.drewN | apply IsS42.drew | apply IsS42.set_0 | apply IsS42.set_1 | apply IsS42.set_2 | apply IsS42.set_3) | exact HI170.out)); (case side2 => repeat (first | (with_reducible first | exact HB.out | apply below_alloc | apply pw_below_drewN | apply below_drew1 | refine below_set ?_ (IsS42.ge HI170.out)) | exact HB.out)); rintro e w65 ⟨rfl, hi, hb, hk⟩; refine ⟨_, rfl, ?_⟩; have n0_ := Aside0.mk (hb); have n1_ := Aside0.mk (hi); clear HB; clear HI170; have HB := n0_; have HI170 := n1_; clear n0_ n1_; (try clear hb); (try clear hb2); (try clear hk); (try clear hi)) | (go_at_call 18; (with_reducible refine (scan_Scan_Err.calls g170 t210 t211 t212 t213 t214 t215 t216 t217 t218 w _ ?side1 ?side2 A50.out).mono ?_); (case side1 => repeat (first | (with_reducible first | exact HI170.out | apply IsS42.alloc | apply IsS42.drewN | apply IsS42.drew | apply IsS42.set_0 | apply IsS42.set_1 | apply IsS42.set_2 | apply IsS42.set_3) | exact HI170.out)); (case side2 => repeat (first | (with_reducible first | exact HB.out | apply below_alloc | apply pw_below_drewN | apply below_drew1 | refine below_set ?_ (IsS42.ge HI170.out)) | exact HB.out)); rintro e w66 ⟨rfl, hi, hb, hk⟩; have n0_ := Aside0.mk (hb); have n1_ := Aside0.mk (hi); clear HB; clear HI170; have HB := n0_; have HI170 := n1_; clear n0_ n1_; (try clear hb); (try clear hb2); (try clear hk); (try clear hi)))
                  go_ret
                  exact ⟨by first | rfl | (simp [errW_none, errW_some] <;> rfl) | (simp [*, errW_none, errW_some] <;> rfl), by repeat (first | (with_reducible first | exact HB.out | apply below_alloc | apply pw_below_drewN | apply below_drew1 | refine below_set ?_ (IsS42.ge HI170.out)) | exact HB.out)⟩
              · rw [if_neg c49] at H
                have c49b0 : (t209 == a1) = false := beq_eq_false_iff_ne.mpr c49
                have c49b1 : (t209 != a1) = true := bne_iff_ne.mpr c49
                obtain rfl := Option.some.inj H
                go_wp2_with (first | ((with_reducible refine gate_callee (f := 10) rfl ?_); refine goesL_ (some 53) rfl rfl Try.func10 (by kernel_rfl) rfl #[.pointer (some ⟨g170, 0, none⟩), .int .i64 2] rfl (by (try simp only [List.map_toArray, List.map_cons, List.map_nil]); first | done | rfl | (simp only [List.length_drop, List.length_take]; rfl)) ?_; (with_reducible refine (scan_Scan_Fail.calls g170 x171000_10 x171001_10 x171002_10 x171003_10 2 t205 t206 t207 t208 w _ ?side1 ?side2 A47.out).mono ?_); (case side1 => repeat (first | (with_reducible first | exact HI170.out | apply IsS42.alloc | apply IsS42.drewN | apply IsS42.drew | apply IsS42.set_0 | apply IsS42.set_1 | apply IsS42.set_2 | apply IsS42.set_3) | exact HI170.out)); (case side2 => repeat (first | (with_reducible first | exact HB.out | apply below_alloc | apply pw_below_drewN | apply below_drew1 | refine below_set ?_ (IsS42.ge HI170.out)) | exact HB.out)); rintro e w67 ⟨rfl, hi, hb, hk⟩; refine ⟨_, rfl, ?_⟩; have n0_ := Aside0.mk (hb); have n1_ := Aside0.mk (hi); clear HB; clear HI170; have HB := n0_; have HI170 := n1_; clear n0_ n1_; (try clear hb); (try clear hb2); (try clear hk); (try clear hi)) | ((with_reducible refine gate_callee (f := 17) rfl ?_); refine goesL_ (some 55) rfl rfl Try.func17 (by kernel_rfl) rfl #[.pointer (some ⟨g170, 0, none⟩)] rfl (by (try simp only [List.map_toArray, List.map_cons, List.map_nil]); first | done | rfl | (simp only [List.length_drop, List.length_take]; rfl)) ?_; (with_reducible refine (scan_Scan_End.calls g170 t205 t206 t207 t208 t209 t210 t211 t212 t213 w _ ?side1 ?side2 A48.out).mono ?_); (case side1 => repeat (first | (with_reducible first | exact HI170.out | apply IsS42.alloc | apply IsS42.drewN | apply IsS42.drew | apply IsS42.set_0 | apply IsS42.set_1 | apply IsS42.set_2 | apply IsS42.set_3) | exact HI170.out)); (case side2 => repeat (first | (with_reducible first | exact HB.out | apply below_alloc | apply pw_below_drewN | apply below_drew1 | refine below_set ?_ (IsS42.ge HI170.out)) | exact HB.out)); rintro e w68 ⟨rfl, hi, hb, hk⟩; refine ⟨_, rfl, ?_⟩; have n0_ := Aside0.mk (hb); have n1_ := Aside0.mk (hi); clear HB; clear HI170; have HB := n0_; have HI170 := n1_; clear n0_ n1_; (try clear hb); (try clear hb2); (try clear hk); (try clear hi)))
                go_ret
                exact ⟨by first | rfl | (simp [errW_none, errW_some] <;> rfl) | (simp [*, errW_none, errW_some] <;> rfl), by repeat (first | (with_reducible first | exact HB.out | apply below_alloc | apply pw_below_drewN | apply below_drew1 | refine below_set ?_ (IsS42.ge HI170.out)) | exact HB.out)⟩

/-- THE ONE PURE STATEMENT of pleachlaw04_ScanKeeps: yours. -/
def pleachlaw04_ScanKeeps.Pure : Prop := ∀ (a0 : ByteArray) (a1 : Int) (a2 : Int), a0.size ≤ 140737488351232 → (Lit.int .i64 a1).wf = true → (Lit.int .i64 a2).wf = true → ∃ k, pleachlaw04_ScanKeeps.f k a0 a1 a2 = some true
theorem pleachlaw04_ScanKeeps.walk (P : pleachlaw04_ScanKeeps.Pure) (a0 : ByteArray) (a1 : Int) (a2 : Int) (w : World) (w0 : a0.size ≤ 140737488351232) (w1 : (Lit.int .i64 a1).wf = true) (w2 : (Lit.int .i64 a2).wf = true) :
    Calls Try.prog 4 #[.string a0, .int .i64 a1, .int .i64 a2] w fun e w' => e = .returned (.bool true) ∧ Below w.heap.size w w' := by
  obtain ⟨k, h⟩ := P a0 a1 a2 w0 w1 w2
  refine (pleachlaw04_ScanKeeps.calls k a0 a1 a2 true w h).mono ?_
  rintro e w' ⟨rfl, hd⟩
  exact ⟨rfl, hd⟩

end Go.Proofs.Ytnmimkoehgdehaa.EScanKeeps
