-- Written by this session's own program (wip/tools/ext.py) for this claim; Lean checks it.
import Derived.Test.YtadpicphohobbaaEDeltaTakesx0
import Derived.Test.YtadpicphohobbaaEDeltaTakesx3
import Derived.Test.YtadpicphohobbaaEDeltaTakesx4
namespace Go.Proofs.Ytadpicphohobbaa.EDeltaTakes
open Go.RowKit Go.Proofs.YtadpicphohobbaaW.PrintWords Go.Proofs.YtadpicphohobbaaW.PrintLast Go.Proofs.YtadpicphohobbaaW.PrintMore
attribute [local go_sem] M.run_leq M.run_gtr M.run_geq max2_int min2_int max_two min_two max_three min_three max_four min_four   -- for this text's walks alone
set_option linter.unusedVariables false
set_option linter.unusedSimpArgs false

/-! ### delta_Take_p: function 19 -/
mutual
def delta_Take_p.l0 : Nat → ByteArray → List (S34) → ByteArray → Int → Int → Bool → Option ((List (S34)) × Int)
  | 0, _, _, _, _, _, _ => none
  | k + 1, x0, x4, zaa, zab, zac, zad => (scan_Scan_Err.f zaa zab zac zad).bind fun bt136 => (if bt136.1 = 0 then ((scan_Scan_At.f bt136.2.1 bt136.2.2.1 bt136.2.2.2.1 bt136.2.2.2.2).bind fun bt141 => (delta_Take_p.j1 k x0 x4 (decide (bt141.1 < (x0.size : Int))) bt141.2.1 bt141.2.2.1 bt141.2.2.2.1 bt141.2.2.2.2)) else (delta_Take_p.j1 k x0 x4 false bt136.2.1 bt136.2.2.1 bt136.2.2.2.1 bt136.2.2.2.2))
def delta_Take_p.j1 : Nat → ByteArray → List (S34) → Bool → ByteArray → Int → Int → Bool → Option ((List (S34)) × Int)
  | 0, _, _, _, _, _, _, _ => none
  | k + 1, x0, x4, x19, zaa, zab, zac, zad => if x19 = true then ((scan_Scan_Num.f zaa zab zac zad 131073).bind fun bt146 => (if (Go.bits .and .i64 bt146.1 1) = 1 then ((scan_Scan_Num.f bt146.2.1 bt146.2.2.1 bt146.2.2.2.1 bt146.2.2.2.2 65536).bind fun bt152 => (delta_Take_p.j2 k x0 x4 bt152.2.1 bt152.2.2.1 bt152.2.2.2.1 bt152.2.2.2.2 ((Go.bits .and .i64 bt146.1 1) == 1) bt152.1 (wrap64 (Int.tdiv bt146.1 2)) (⟨#[]⟩ : ByteArray))) else ((scan_Scan_Fix.f bt146.2.1 bt146.2.2.1 bt146.2.2.2.1 bt146.2.2.2.2 (wrap64 (Int.tdiv bt146.1 2))).bind fun bt157 => (delta_Take_p.j2 k x0 x4 bt157.2.1 bt157.2.2.1 bt157.2.2.2.1 bt157.2.2.2.2 ((Go.bits .and .i64 bt146.1 1) == 1) 0 (wrap64 (Int.tdiv bt146.1 2)) bt157.1)))) else ((scan_Scan_End.f zaa zab zac zad).bind fun bt181 => (if bt181.1 = 0 then (some (x4, 0)) else (some (([] : List (S34)), 3))))
def delta_Take_p.j2 : Nat → ByteArray → List (S34) → ByteArray → Int → Int → Bool → Bool → Int → Int → ByteArray → Option ((List (S34)) × Int)
  | 0, _, _, _, _, _, _, _, _, _, _ => none
  | k + 1, x0, x4, zaa, zab, zac, zad, zae, zaf, zag, zah => (scan_Scan_Err.f zaa zab zac zad).bind fun bt162 => (if bt162.1 = 0 then ((delta_Check.f zae zaf zag zah).bind fun t167 => (if t167 = 0 then (if x4.length < 3518437208883 then (delta_Take_p.l0 k x0 (x4 ++ [(⟨zae, zaf, zag, zah⟩ : S34)]) bt162.2.1 bt162.2.2.1 bt162.2.2.2.1 bt162.2.2.2.2) else (none)) else ((scan_Scan_Fail.f bt162.2.1 bt162.2.2.1 bt162.2.2.2.1 bt162.2.2.2.2 3).bind fun bt171 => (if x4.length < 3518437208883 then (delta_Take_p.l0 k x0 (x4 ++ [(⟨zae, zaf, zag, zah⟩ : S34)]) bt171.1 bt171.2.1 bt171.2.2.1 bt171.2.2.2) else (none))))) else (if x4.length < 3518437208883 then (delta_Take_p.l0 k x0 (x4 ++ [(⟨zae, zaf, zag, zah⟩ : S34)]) bt162.2.1 bt162.2.2.1 bt162.2.2.2.1 bt162.2.2.2.2) else (none)))
end
def delta_Take_p.f (k : Nat) (a0 : ByteArray) : Option ((List (S34)) × Int) := (scan_New.f a0).bind fun bt131 => (delta_Take_p.l0 k a0 ([] : List (S34)) bt131.1 bt131.2.1 bt131.2.2.1 bt131.2.2.2)
theorem delta_Take_p.mono_l : ∀ k, (∀ y0 y1 y2 y3 y4 y5, LeO (delta_Take_p.l0 k y0 y1 y2 y3 y4 y5) (delta_Take_p.l0 (k + 1) y0 y1 y2 y3 y4 y5)) ∧ (∀ y0 y1 y2 y3 y4 y5 y6, LeO (delta_Take_p.j1 k y0 y1 y2 y3 y4 y5 y6) (delta_Take_p.j1 (k + 1) y0 y1 y2 y3 y4 y5 y6)) ∧ (∀ y0 y1 y2 y3 y4 y5 y6 y7 y8 y9, LeO (delta_Take_p.j2 k y0 y1 y2 y3 y4 y5 y6 y7 y8 y9) (delta_Take_p.j2 (k + 1) y0 y1 y2 y3 y4 y5 y6 y7 y8 y9))
  | 0 => ⟨fun _ _ _ _ _ _ r h => by simp [delta_Take_p.l0] at h, fun _ _ _ _ _ _ _ r h => by simp [delta_Take_p.j1] at h, fun _ _ _ _ _ _ _ _ _ _ r h => by simp [delta_Take_p.j2] at h⟩
  | k + 1 => by
    obtain ⟨ih0, ih1, ih2⟩ := delta_Take_p.mono_l k
    refine ⟨?_, ?_, ?_⟩
    · intro y0 y1 y2 y3 y4 y5
      unfold delta_Take_p.l0
      repeat' first
      | (with_reducible exact ih0 _ _ _ _ _ _)
      | (with_reducible exact ih1 _ _ _ _ _ _ _)
      | (with_reducible exact ih2 _ _ _ _ _ _ _ _ _ _)
      | (with_reducible exact LeO.refl _)
      | (with_reducible exact LeO.none _)
      | (with_reducible refine LeO.ite ?_ ?_)
      | (with_reducible refine LeO.bind ?_ (fun _ => ?_))
      | exact ih0 _ _ _ _ _ _
      | exact ih1 _ _ _ _ _ _ _
      | exact ih2 _ _ _ _ _ _ _ _ _ _
      | exact LeO.none _
      | refine LeO.ite ?_ ?_
      | refine LeO.bind ?_ (fun _ => ?_)
    · intro y0 y1 y2 y3 y4 y5 y6
      unfold delta_Take_p.j1
      repeat' first
      | (with_reducible exact ih0 _ _ _ _ _ _)
      | (with_reducible exact ih1 _ _ _ _ _ _ _)
      | (with_reducible exact ih2 _ _ _ _ _ _ _ _ _ _)
      | (with_reducible exact LeO.refl _)
      | (with_reducible exact LeO.none _)
      | (with_reducible refine LeO.ite ?_ ?_)
      | (with_reducible refine LeO.bind ?_ (fun _ => ?_))
      | exact ih0 _ _ _ _ _ _
      | exact ih1 _ _ _ _ _ _ _
      | exact ih2 _ _ _ _ _ _ _ _ _ _
      | exact LeO.none _
      | refine LeO.ite ?_ ?_
      | refine LeO.bind ?_ (fun _ => ?_)
    · intro y0 y1 y2 y3 y4 y5 y6 y7 y8 y9
      unfold delta_Take_p.j2
      repeat' first
      | (with_reducible exact ih0 _ _ _ _ _ _)
      | (with_reducible exact ih1 _ _ _ _ _ _ _)
      | (with_reducible exact ih2 _ _ _ _ _ _ _ _ _ _)
      | (with_reducible exact LeO.refl _)
      | (with_reducible exact LeO.none _)
      | (with_reducible refine LeO.ite ?_ ?_)
      | (with_reducible refine LeO.bind ?_ (fun _ => ?_))
      | exact ih0 _ _ _ _ _ _
      | exact ih1 _ _ _ _ _ _ _
      | exact ih2 _ _ _ _ _ _ _ _ _ _
      | exact LeO.none _
      | refine LeO.ite ?_ ?_
      | refine LeO.bind ?_ (fun _ => ?_)
theorem delta_Take_p.mono : ∀ a0 k, LeO (delta_Take_p.f k a0) (delta_Take_p.f (k + 1) a0) := by
  intro a0 k
  obtain ⟨ih0, ih1, ih2⟩ := delta_Take_p.mono_l k
  unfold delta_Take_p.f
  repeat' first
      | (with_reducible exact ih0 _ _ _ _ _ _)
      | (with_reducible exact ih1 _ _ _ _ _ _ _)
      | (with_reducible exact ih2 _ _ _ _ _ _ _ _ _ _)
      | (with_reducible exact LeO.refl _)
      | (with_reducible exact LeO.none _)
      | (with_reducible refine LeO.ite ?_ ?_)
      | (with_reducible refine LeO.bind ?_ (fun _ => ?_))
      | exact ih0 _ _ _ _ _ _
      | exact ih1 _ _ _ _ _ _ _
      | exact ih2 _ _ _ _ _ _ _ _ _ _
      | exact LeO.none _
      | refine LeO.ite ?_ ?_
      | refine LeO.bind ?_ (fun _ => ?_)
set_option maxHeartbeats 8000000 in
set_option maxRecDepth 100000 in
theorem delta_Take_p.calls (k : Nat) (a0 : ByteArray) (r1 : List (S34)) (r2 : Int) (w : World) (h : delta_Take_p.f k a0 = some (r1, r2)) :
    Calls Try.prog 19 #[.string a0] w fun e w' => ∃ v0_ : Value, e = .returned (.tuple #[v0_, .int .i64 r2]) ∧ Kd.R k34 34 w' w.heap.size (fun _ => True) v0_ r1 ∧ Below w.heap.size w w' := by
  have hu34 := Try.underlying34
  have HB := Aside0.mk (Below.refl w.heap.size w)
  have H : ((scan_New.f a0).bind fun bt131 => (delta_Take_p.l0 k a0 ([] : List (S34)) bt131.1 bt131.2.1 bt131.2.2.1 bt131.2.2.2)) = some (r1, r2) := h
  clear h
  replace H := Option.bind_eq_some_iff.mp H
  obtain ⟨⟨t131, t132, t133, t134⟩, A20, H⟩ := H
  replace H : (delta_Take_p.l0 k a0 ([] : List (S34)) t131 t132 t133 t134) = some (r1, r2) := H
  have A2 := Aside0.mk A20
  clear A20
  have H' := Aside0.mk H
  clear H
  go_enter Try.func19, Try.ntmps19
  go_wp2_with (first | ((with_reducible refine gate_callee (f := 29) rfl ?_); refine M.goes (some 9) Try.func29 #[.string a0] rfl ?_; (with_reducible refine (scan_New.calls a0 t131 t132 t133 t134 w _ ?side1 A2.out).mono ?_); (case side1 => repeat (first | (with_reducible first | exact HB.out | apply below_alloc | apply pw_below_drewN | apply below_drew1) | exact HB.out)); rintro e w3 ⟨g135, rfl, hi, hb, hb2⟩; refine ⟨_, rfl, ?_⟩; have n0_ := Aside0.mk (hb); have n1_ := Aside0.mk (hi); clear HB; have HB := n0_; have HI135 := n1_; clear n0_ n1_; (try clear hb); (try clear hb2); (try clear hi)))
  go_loopg [4] k (fun kq v4 w' => ∃ (x4_1 : List (S34)) (zai : ByteArray) (zaj : Int) (zak : Int) (zal : Bool), Aside0 (delta_Take_p.l0 kq a0 x4_1 zai zaj zak zal = some (r1, r2)) ∧ Aside0 (kq ≤ k) ∧ Aside0 (Kd.R k34 34 w' w.heap.size (fun _ => True) v4 x4_1) ∧ Aside0 (IsS70 w w' g135 zai zaj zak zal) ∧ Aside0 (Below w.heap.size w w'))
  case atStart => exact ⟨(([] : List (S34))), (t131), (t132), (t133), (t134), H', ⟨Nat.le_refl _⟩, ⟨by first | exact Kd.R_nil _ _ _ _ _ | exact Kd.N_nil _ _ _ _ _ | exact Kd.V_nil _ _ _ _ _ | exact Kd.Q_nil _ _ _ _ _ | exact Kd.S_nil _ _ _ _ _⟩, ⟨by repeat (first | (with_reducible first | exact HI135.out | apply IsS70.alloc | apply IsS70.drewN | apply IsS70.drew | apply IsS70.set_0 | apply IsS70.set_1 | apply IsS70.set_2 | apply IsS70.set_3) | exact HI135.out)⟩, ⟨by repeat (first | (with_reducible first | exact HB.out | apply below_alloc | apply pw_below_drewN | apply below_drew1 | refine below_set ?_ (IsS70.ge HI135.out)) | exact HB.out)⟩⟩
  case round =>
    clear H'
    try clear c1
    try clear c2
    try clear p2
    obtain ⟨x4_1, zai, zaj, zak, zal, HA, HK1, zam, HI135, HB⟩ := hrel
    cases gk with
    | zero => exact absurd HA.out (by simp [delta_Take_p.l0])
    | succ k1 =>
      have H := HA.out
      clear HA
      simp only [delta_Take_p.l0] at H
      have HC4 := Aside0.mk H
      clear H
      go_upto_region 3 with (fail)
      go_cut [19] (fun v19 wc => ∃ (kq : Nat) (x19_3 : Bool) (zan : ByteArray) (zao : Int) (zap : Int) (zaq : Bool), v19 = .bool x19_3 ∧ Aside0 (delta_Take_p.j1 kq a0 x4_1 x19_3 zan zao zap zaq = some (r1, r2)) ∧ Aside0 (kq ≤ k1) ∧ Aside0 (Kd.R k34 34 wc w.heap.size (fun _ => True) u4 x4_1) ∧ Aside0 (IsS70 w wc g135 zan zao zap zaq) ∧ Aside0 (Below w.heap.size w wc))
      case first =>
        have H := HC4.out
        clear HC4
        replace H := Option.bind_eq_some_iff.mp H
        obtain ⟨⟨t136, t137, t138, t139, t140⟩, A50, H⟩ := H
        replace H : (if t136 = 0 then ((scan_Scan_At.f t137 t138 t139 t140).bind fun bt141 => (delta_Take_p.j1 k1 a0 x4_1 (decide (bt141.1 < (a0.size : Int))) bt141.2.1 bt141.2.2.1 bt141.2.2.2.1 bt141.2.2.2.2)) else (delta_Take_p.j1 k1 a0 x4_1 false t137 t138 t139 t140)) = some (r1, r2) := H
        have A5 := Aside0.mk A50
        clear A50
        by_cases c6 : t136 = 0
        · rw [if_pos c6] at H
          have c6b0 : (t136 == 0) = true := beq_iff_eq.mpr c6
          have c6b1 : (t136 != 0) = false := bne_eq_false_iff_eq.mpr c6
          clear c6
          (first | rw [c6b0] | (simp only [i64_w, i32_w]; rw [c6b0]) | skip)
          replace H := Option.bind_eq_some_iff.mp H
          obtain ⟨⟨t141, t142, t143, t144, t145⟩, A70, H⟩ := H
          replace H : (delta_Take_p.j1 k1 a0 x4_1 (decide (t141 < (a0.size : Int))) t142 t143 t144 t145) = some (r1, r2) := H
          have A7 := Aside0.mk A70
          clear A70
          have H' := Aside0.mk H
          clear H
          go_wp2_with (first | ((with_reducible refine gate_callee (f := 30) rfl ?_); refine M.goes (some 11) Try.func30 #[.pointer (some ⟨g135, 0, none⟩)] rfl ?_; (with_reducible refine (scan_Scan_Err.calls g135 zai zaj zak zal t136 t137 t138 t139 t140 w _ ?side1 ?side2 A5.out).mono ?_); (case side1 => repeat (first | (with_reducible first | exact HI135.out | apply IsS70.alloc | apply IsS70.drewN | apply IsS70.drew | apply IsS70.set_0 | apply IsS70.set_1 | apply IsS70.set_2 | apply IsS70.set_3) | exact HI135.out)); (case side2 => repeat (first | (with_reducible first | exact HB.out | apply below_alloc | apply pw_below_drewN | apply below_drew1 | refine below_set ?_ (IsS70.ge HI135.out)) | exact HB.out)); rintro e w8 ⟨rfl, hi, hb, hk⟩; refine ⟨_, rfl, ?_⟩; have n0_ := Aside0.mk (Kd.R_mono (Kd.R_keep (IsS70.apart (show IsS70 w _ g135 zai zaj zak zal from by repeat (first | (with_reducible first | exact HI135.out | apply IsS70.alloc | apply IsS70.drewN | apply IsS70.drew | apply IsS70.set_0 | apply IsS70.set_1 | apply IsS70.set_2 | apply IsS70.set_3) | exact HI135.out)) (M.ro zam) (by decide)) hk (fun _ h => h.2)) (fun _ h => h.1)); have n1_ := Aside0.mk (hb); have n2_ := Aside0.mk (hi); clear zam HB HI135; have zam := n0_; have HB := n1_; have HI135 := n2_; clear n0_ n1_ n2_; (try clear hb); (try clear hk); (try clear hi)) | (go_at_call 31; (with_reducible refine (scan_Scan_At.calls g135 t137 t138 t139 t140 t141 t142 t143 t144 t145 w _ ?side1 ?side2 A7.out).mono ?_); (case side1 => repeat (first | (with_reducible first | exact HI135.out | apply IsS70.alloc | apply IsS70.drewN | apply IsS70.drew | apply IsS70.set_0 | apply IsS70.set_1 | apply IsS70.set_2 | apply IsS70.set_3) | exact HI135.out)); (case side2 => repeat (first | (with_reducible first | exact HB.out | apply below_alloc | apply pw_below_drewN | apply below_drew1 | refine below_set ?_ (IsS70.ge HI135.out)) | exact HB.out)); rintro e w9 ⟨rfl, hi, hb, hk⟩; have n0_ := Aside0.mk (Kd.R_mono (Kd.R_keep (IsS70.apart (show IsS70 w _ g135 t137 t138 t139 t140 from by repeat (first | (with_reducible first | exact HI135.out | apply IsS70.alloc | apply IsS70.drewN | apply IsS70.drew | apply IsS70.set_0 | apply IsS70.set_1 | apply IsS70.set_2 | apply IsS70.set_3) | exact HI135.out)) (M.ro zam) (by decide)) hk (fun _ h => h.2)) (fun _ h => h.1)); have n1_ := Aside0.mk (hb); have n2_ := Aside0.mk (hi); clear zam HB HI135; have zam := n0_; have HB := n1_; have HI135 := n2_; clear n0_ n1_ n2_; (try clear hb); (try clear hb2); (try clear hk); (try clear hi)))
          go_meet
          case rel => exact ⟨_, (decide (t141 < (a0.size : Int))), (t142), (t143), (t144), (t145), (by first | rfl | (simp; done) | (simp [*]; done) | (simp [M.isEmpty_bne]; done)), H', ⟨by have := HK1.out; first | omega | exact Nat.le_refl _⟩, ⟨by (with_reducible repeat (first | apply Kd.R_alloc | apply Kd.R_drewN | apply Kd.R_drew)); exact zam.out⟩, ⟨by repeat (first | (with_reducible first | exact HI135.out | apply IsS70.alloc | apply IsS70.drewN | apply IsS70.drew | apply IsS70.set_0 | apply IsS70.set_1 | apply IsS70.set_2 | apply IsS70.set_3) | exact HI135.out)⟩, ⟨by repeat (first | (with_reducible first | exact HB.out | apply below_alloc | apply pw_below_drewN | apply below_drew1 | refine below_set ?_ (IsS70.ge HI135.out)) | exact HB.out)⟩⟩
        · rw [if_neg c6] at H
          have c6b0 : (t136 == 0) = false := beq_eq_false_iff_ne.mpr c6
          have c6b1 : (t136 != 0) = true := bne_iff_ne.mpr c6
          (first | rw [c6b0] | (simp only [i64_w, i32_w]; rw [c6b0]) | skip)
          have H' := Aside0.mk H
          clear H
          go_wp2_with (first | ((with_reducible refine gate_callee (f := 30) rfl ?_); refine M.goes (some 11) Try.func30 #[.pointer (some ⟨g135, 0, none⟩)] rfl ?_; (with_reducible refine (scan_Scan_Err.calls g135 zai zaj zak zal t136 t137 t138 t139 t140 w _ ?side1 ?side2 A5.out).mono ?_); (case side1 => repeat (first | (with_reducible first | exact HI135.out | apply IsS70.alloc | apply IsS70.drewN | apply IsS70.drew | apply IsS70.set_0 | apply IsS70.set_1 | apply IsS70.set_2 | apply IsS70.set_3) | exact HI135.out)); (case side2 => repeat (first | (with_reducible first | exact HB.out | apply below_alloc | apply pw_below_drewN | apply below_drew1 | refine below_set ?_ (IsS70.ge HI135.out)) | exact HB.out)); rintro e w10 ⟨rfl, hi, hb, hk⟩; refine ⟨_, rfl, ?_⟩; have n0_ := Aside0.mk (Kd.R_mono (Kd.R_keep (IsS70.apart (show IsS70 w _ g135 zai zaj zak zal from by repeat (first | (with_reducible first | exact HI135.out | apply IsS70.alloc | apply IsS70.drewN | apply IsS70.drew | apply IsS70.set_0 | apply IsS70.set_1 | apply IsS70.set_2 | apply IsS70.set_3) | exact HI135.out)) (M.ro zam) (by decide)) hk (fun _ h => h.2)) (fun _ h => h.1)); have n1_ := Aside0.mk (hb); have n2_ := Aside0.mk (hi); clear zam HB HI135; have zam := n0_; have HB := n1_; have HI135 := n2_; clear n0_ n1_ n2_; (try clear hb); (try clear hk); (try clear hi)))
          go_meet
          case rel => exact ⟨_, (false), (t137), (t138), (t139), (t140), (by first | rfl | (simp; done) | (simp [*]; done) | (simp [M.isEmpty_bne]; done)), H', ⟨by have := HK1.out; first | omega | exact Nat.le_refl _⟩, ⟨by (with_reducible repeat (first | apply Kd.R_alloc | apply Kd.R_drewN | apply Kd.R_drew)); exact zam.out⟩, ⟨by repeat (first | (with_reducible first | exact HI135.out | apply IsS70.alloc | apply IsS70.drewN | apply IsS70.drew | apply IsS70.set_0 | apply IsS70.set_1 | apply IsS70.set_2 | apply IsS70.set_3) | exact HI135.out)⟩, ⟨by repeat (first | (with_reducible first | exact HB.out | apply below_alloc | apply pw_below_drewN | apply below_drew1 | refine below_set ?_ (IsS70.ge HI135.out)) | exact HB.out)⟩⟩
      case rest =>
        clear HC4
        try clear c1
        try clear c2
        try clear p2
        try clear c3
        try clear c6
        try clear c6b0
        try clear c6b1
        try clear p2
        obtain ⟨kq, x19_3, zan, zao, zap, zaq, rfl, HA, HJ3, zam, HI135, HB⟩ := hcut
        cases kq with
        | zero => exact absurd HA.out (by simp [delta_Take_p.j1])
        | succ kj3 =>
          have H := HA.out
          clear HA
          simp only [delta_Take_p.j1] at H
          by_cases c11 : x19_3 = true
          · subst c11
            have H1 : ((scan_Scan_Num.f zan zao zap zaq 131073).bind fun bt146 => (if (Go.bits .and .i64 bt146.1 1) = 1 then ((scan_Scan_Num.f bt146.2.1 bt146.2.2.1 bt146.2.2.2.1 bt146.2.2.2.2 65536).bind fun bt152 => (delta_Take_p.j2 kj3 a0 x4_1 bt152.2.1 bt152.2.2.1 bt152.2.2.2.1 bt152.2.2.2.2 ((Go.bits .and .i64 bt146.1 1) == 1) bt152.1 (wrap64 (Int.tdiv bt146.1 2)) (⟨#[]⟩ : ByteArray))) else ((scan_Scan_Fix.f bt146.2.1 bt146.2.2.1 bt146.2.2.2.1 bt146.2.2.2.2 (wrap64 (Int.tdiv bt146.1 2))).bind fun bt157 => (delta_Take_p.j2 kj3 a0 x4_1 bt157.2.1 bt157.2.2.1 bt157.2.2.2.1 bt157.2.2.2.2 ((Go.bits .and .i64 bt146.1 1) == 1) 0 (wrap64 (Int.tdiv bt146.1 2)) bt157.1)))) = some (r1, r2) := by rw [if_pos rfl] at H; exact H
            clear H
            have H := H1
            clear H1
            replace H := Option.bind_eq_some_iff.mp H
            obtain ⟨⟨t146, t147, t148, t149, t150⟩, A120, H⟩ := H
            replace H : (if (Go.bits .and .i64 t146 1) = 1 then ((scan_Scan_Num.f t147 t148 t149 t150 65536).bind fun bt152 => (delta_Take_p.j2 kj3 a0 x4_1 bt152.2.1 bt152.2.2.1 bt152.2.2.2.1 bt152.2.2.2.2 ((Go.bits .and .i64 t146 1) == 1) bt152.1 (wrap64 (Int.tdiv t146 2)) (⟨#[]⟩ : ByteArray))) else ((scan_Scan_Fix.f t147 t148 t149 t150 (wrap64 (Int.tdiv t146 2))).bind fun bt157 => (delta_Take_p.j2 kj3 a0 x4_1 bt157.2.1 bt157.2.2.1 bt157.2.2.2.1 bt157.2.2.2.2 ((Go.bits .and .i64 t146 1) == 1) 0 (wrap64 (Int.tdiv t146 2)) bt157.1))) = some (r1, r2) := H
            have A12 := Aside0.mk A120
            clear A120
            have HC13 := Aside0.mk H
            clear H
            go_upto_if 29 with (first | ((with_reducible refine gate_callee (f := 32) rfl ?_); refine M.goes (some 21) Try.func32 #[.pointer (some ⟨g135, 0, none⟩), .int .i64 131073] rfl ?_; (with_reducible refine (scan_Scan_Num.calls g135 zan zao zap zaq 131073 t146 t147 t148 t149 t150 w _ ?side1 ?side2 A12.out).mono ?_); (case side1 => repeat (first | (with_reducible first | exact HI135.out | apply IsS70.alloc | apply IsS70.drewN | apply IsS70.drew | apply IsS70.set_0 | apply IsS70.set_1 | apply IsS70.set_2 | apply IsS70.set_3) | exact HI135.out)); (case side2 => repeat (first | (with_reducible first | exact HB.out | apply below_alloc | apply pw_below_drewN | apply below_drew1 | refine below_set ?_ (IsS70.ge HI135.out)) | exact HB.out)); rintro e w14 ⟨rfl, hi, hb, hk⟩; refine ⟨_, rfl, ?_⟩; have n0_ := Aside0.mk (Kd.R_mono (Kd.R_keep (IsS70.apart (show IsS70 w _ g135 zan zao zap zaq from by repeat (first | (with_reducible first | exact HI135.out | apply IsS70.alloc | apply IsS70.drewN | apply IsS70.drew | apply IsS70.set_0 | apply IsS70.set_1 | apply IsS70.set_2 | apply IsS70.set_3) | exact HI135.out)) (M.ro zam) (by decide)) hk (fun _ h => h.2)) (fun _ h => h.1)); have n1_ := Aside0.mk (hb); have n2_ := Aside0.mk (hi); clear zam HB HI135; have zam := n0_; have HB := n1_; have HI135 := n2_; clear n0_ n1_ n2_; (try clear hb); (try clear hk); (try clear hi)) | ((with_reducible refine gate_dst (N := 7) rfl ?_); (try (refine gate_guard (by rfl) ?_; dsimp only)); refine box_event ?hg (N := 7) ?hd (cs := #[.bool false, .int .i64 0, .int .i64 0, .string (⟨#[]⟩ : ByteArray)]) (t := 34) ?hr ?_; (case hd => rfl); (case hg => rfl); (case hr => first | (go_simp; done) | (go_simp; rfl)); intro zar hg w15 hbox hb; have n0_ := Aside0.mk (Kd.R_below (Kd.R_elderB (M.ro zam) zar (Nat.le_of_eq hg.symm)) hb); have n1_ := Aside0.mk (IsS70.below (by repeat (first | (with_reducible first | exact HI135.out | apply IsS70.alloc | apply IsS70.drewN | apply IsS70.drew | apply IsS70.set_0 | apply IsS70.set_1 | apply IsS70.set_2 | apply IsS70.set_3) | exact HI135.out)) hb); have n2_ := Aside0.mk (below_step (by repeat (first | (with_reducible first | exact HB.out | apply below_alloc | apply pw_below_drewN | apply below_drew1 | refine below_set ?_ (IsS70.ge HI135.out)) | exact HB.out)) hb); have n3_ := Aside0.mk (hbox); have n4_ := Aside0.mk ((by rw [hg]; exact (below_size (by repeat (first | (with_reducible first | exact HB.out | apply below_alloc | apply pw_below_drewN | apply below_drew1 | refine below_set ?_ (IsS70.ge HI135.out)) | exact HB.out))) : w.heap.size ≤ zar)); have n5_ := Aside0.mk ((by rw [hg]; exact (below_size (by repeat (first | (with_reducible first | exact HB.out | apply below_alloc | apply pw_below_drewN | apply below_drew1 | refine below_set ?_ (IsS70.ge HI135.out)) | exact HB.out))) : w.heap.size ≤ zar)); have n6_ := Aside0.mk ((by rw [hg]; exact Nat.ne_of_lt (IsS70.lt (show IsS70 w _ g135 t147 t148 t149 t150 from by repeat (first | (with_reducible first | exact HI135.out | apply IsS70.alloc | apply IsS70.drewN | apply IsS70.drew | apply IsS70.set_0 | apply IsS70.set_1 | apply IsS70.set_2 | apply IsS70.set_3) | exact HI135.out))) : g135 ≠ zar)); have n7_ := Aside0.mk ((by rw [hg]; exact Nat.ne_of_gt (IsS70.lt (show IsS70 w _ g135 t147 t148 t149 t150 from by repeat (first | (with_reducible first | exact HI135.out | apply IsS70.alloc | apply IsS70.drewN | apply IsS70.drew | apply IsS70.set_0 | apply IsS70.set_1 | apply IsS70.set_2 | apply IsS70.set_3) | exact HI135.out))) : zar ≠ g135)); clear zam HI135 HB; have zam := n0_; have HI135 := n1_; have HB := n2_; have zas := n3_; have zat := n4_; have zau := n5_; have zav := n6_; have zaw := n7_; clear n0_ n1_ n2_ n3_ n4_ n5_ n6_ n7_; clear hb hbox hg; have zax := zaw.out; have zay := zav.out; have zaz : w15.cell? ⟨zar, 0, none⟩ = some (.bool false) := (blk_cell zas.out 0).trans rfl; have zaA : w15.cell? ⟨zar, 1, none⟩ = some (.int .i64 0) := (blk_cell zas.out 1).trans rfl; have zaB : w15.cell? ⟨zar, 2, none⟩ = some (.int .i64 0) := (blk_cell zas.out 2).trans rfl; have zaC : w15.cell? ⟨zar, 3, none⟩ = some (.string (⟨#[]⟩ : ByteArray)) := (blk_cell zas.out 3).trans rfl; have zaD := blk_frozen zas.out 0; have zaE := blk_frozen zas.out 1; have zaF := blk_frozen zas.out 2; have zaG := blk_frozen zas.out 3))
            (try simp only [Act.put, List.setIfInBounds_toArray, List.set_cons_zero, List.set_cons_succ])
            go_cut [] (fun wc => ∃ (kq : Nat) (zaH : ByteArray) (zaI : Int) (zaJ : Int) (zaK : Bool) (zaL : Int) (zaM : ByteArray), Aside0 (delta_Take_p.j2 kq a0 x4_1 zaH zaI zaJ zaK ((Go.bits .and .i64 t146 1) == 1) zaL (wrap64 (Int.tdiv t146 2)) zaM = some (r1, r2)) ∧ Aside0 (kq ≤ kj3) ∧ Aside0 (Kd.R k34 34 wc w.heap.size (fun k_ => k_ ≠ zar) u4 x4_1) ∧ Aside0 (wc.heap[zar]? = some (.cells #[.bool ((Go.bits .and .i64 t146 1) == 1), .int .i64 zaL, .int .i64 (wrap64 (Int.tdiv t146 2)), .string zaM] 34 (0, 0))) ∧ Aside0 (IsS70 w wc g135 zaH zaI zaJ zaK) ∧ Aside0 (Below w.heap.size w wc))
            case first =>
              have H := HC13.out
              clear HC13
              by_cases c18 : (Go.bits .and .i64 t146 1) = 1
              · rw [if_pos c18] at H
                have c18b0 : ((Go.bits .and .i64 t146 1) == 1) = true := beq_iff_eq.mpr c18
                have c18b1 : ((Go.bits .and .i64 t146 1) != 1) = false := bne_eq_false_iff_eq.mpr c18
                clear c18
                (first | rw [c18b0] | (simp only [i64_w, i32_w]; rw [c18b0]) | skip)
                replace H := Option.bind_eq_some_iff.mp H
                obtain ⟨⟨t152, t153, t154, t155, t156⟩, A190, H⟩ := H
                replace H : (delta_Take_p.j2 kj3 a0 x4_1 t153 t154 t155 t156 ((Go.bits .and .i64 t146 1) == 1) t152 (wrap64 (Int.tdiv t146 2)) (⟨#[]⟩ : ByteArray)) = some (r1, r2) := H
                have A19 := Aside0.mk A190
                clear A190
                have H' := Aside0.mk H
                clear H
                go_wp2_with (first | ((with_reducible refine gate_callee (f := 32) rfl ?_); refine M.goes (some 31) Try.func32 #[.pointer (some ⟨g135, 0, none⟩), .int .i64 65536] rfl ?_; (with_reducible refine (scan_Scan_Num.calls g135 t147 t148 t149 t150 65536 t152 t153 t154 t155 t156 w _ ?side1 ?side2 A19.out).mono ?_); (case side1 => repeat (first | (with_reducible first | exact HI135.out | apply IsS70.alloc | apply IsS70.drewN | apply IsS70.drew | apply IsS70.set_0 | apply IsS70.set_1 | apply IsS70.set_2 | apply IsS70.set_3 | refine IsS70.far ?_ zav.out _) | exact HI135.out)); (case side2 => repeat (first | (with_reducible first | exact HB.out | apply below_alloc | apply pw_below_drewN | apply below_drew1 | refine below_set ?_ (IsS70.ge HI135.out) | refine below_set ?_ zau.out) | exact HB.out)); rintro e w20 ⟨rfl, hi, hb, hk⟩; refine ⟨_, rfl, ?_⟩; have n0_ := Aside0.mk (Kd.R_mono (Kd.R_keep (IsS70.apart (show IsS70 w _ g135 t147 t148 t149 t150 from by repeat (first | (with_reducible first | exact HI135.out | apply IsS70.alloc | apply IsS70.drewN | apply IsS70.drew | apply IsS70.set_0 | apply IsS70.set_1 | apply IsS70.set_2 | apply IsS70.set_3 | refine IsS70.far ?_ zav.out _) | exact HI135.out)) (by (with_reducible repeat (first | apply Kd.R_alloc | apply Kd.R_drewN | apply Kd.R_drew)); exact (Kd.R_mono (Kd.R_far (p := ⟨zar, 3, none⟩) (Kd.R_far (p := ⟨zar, 2, none⟩) (Kd.R_far (p := ⟨zar, 1, none⟩) (Kd.R_far (p := ⟨zar, 0, none⟩) (Kd.R_mono zam.out (fun k_ hk => (⟨hk, hk.2⟩ : _ ∧ k_ ≠ zar))) (fun _ hk => hk.2) (.bool true)) (fun _ hk => hk.2) (.int .i64 0)) (fun _ hk => hk.2) (.int .i64 (wrap64 (Int.tdiv t146 2)))) (fun _ hk => hk.2) (.string (⟨#[]⟩ : ByteArray))) (fun _ h_ => h_.1))) (by decide)) hk (fun _ h => h.2)) (fun _ h => h.1)); have n1_ := Aside0.mk (KeepBut.blk hk (g' := zar) (o := .cells #[.bool true, .int .i64 0, .int .i64 (wrap64 (Int.tdiv t146 2)), .string (⟨#[]⟩ : ByteArray)] 34 (0, 0)) (by (with_reducible repeat (first | refine blk_drewN ?_ _ | refine blk_drew ?_ | refine blk_alloc ?_ _)); refine blk_put (cs := #[.bool true, .int .i64 0, .int .i64 (wrap64 (Int.tdiv t146 2)), .string (⟨#[]⟩ : ByteArray)]) ?_ 3 _ rfl; (with_reducible repeat (first | refine blk_drewN ?_ _ | refine blk_drew ?_ | refine blk_alloc ?_ _)); refine blk_put (cs := #[.bool true, .int .i64 0, .int .i64 0, .string (⟨#[]⟩ : ByteArray)]) ?_ 2 _ rfl; (with_reducible repeat (first | refine blk_drewN ?_ _ | refine blk_drew ?_ | refine blk_alloc ?_ _)); refine blk_put (cs := #[.bool true, .int .i64 0, .int .i64 0, .string (⟨#[]⟩ : ByteArray)]) ?_ 1 _ rfl; (with_reducible repeat (first | refine blk_drewN ?_ _ | refine blk_drew ?_ | refine blk_alloc ?_ _)); refine blk_put (cs := #[.bool false, .int .i64 0, .int .i64 0, .string (⟨#[]⟩ : ByteArray)]) ?_ 0 _ rfl; (with_reducible repeat (first | refine blk_drewN ?_ _ | refine blk_drew ?_ | refine blk_alloc ?_ _)); exact zas.out) zaw.out (by simp)); have n2_ := Aside0.mk (hb); have n3_ := Aside0.mk (hi); clear zam zas HB HI135; have zam := n0_; have zas := n1_; have HB := n2_; have HI135 := n3_; clear n0_ n1_ n2_ n3_; (try clear hb); (try clear hk); (try clear hi); have zaN := zaw.out; have zaO := zav.out; have zaP : w20.cell? ⟨zar, 0, none⟩ = some (.bool true) := (blk_cell zas.out 0).trans rfl; have zaQ : w20.cell? ⟨zar, 1, none⟩ = some (.int .i64 0) := (blk_cell zas.out 1).trans rfl; have zaR : w20.cell? ⟨zar, 2, none⟩ = some (.int .i64 (wrap64 (Int.tdiv t146 2))) := (blk_cell zas.out 2).trans rfl; have zaS : w20.cell? ⟨zar, 3, none⟩ = some (.string (⟨#[]⟩ : ByteArray)) := (blk_cell zas.out 3).trans rfl; have zaT := blk_frozen zas.out 0; have zaU := blk_frozen zas.out 1; have zaV := blk_frozen zas.out 2; have zaW := blk_frozen zas.out 3))
                go_meet
                case rel => (try rw [c18b0]); (try rw [c18b0] at H'); exact ⟨_, (t153), (t154), (t155), (t156), (t152), ((⟨#[]⟩ : ByteArray)), H', ⟨by have := HK1.out; have := HJ3.out; first | omega | exact Nat.le_refl _⟩, ⟨by (with_reducible repeat (first | apply Kd.R_alloc | apply Kd.R_drewN | apply Kd.R_drew)); exact Kd.R_mono (Kd.R_far (p := ⟨zar, 1, none⟩) (Kd.R_mono zam.out (fun k_ hk => (⟨hk, hk.2⟩ : _ ∧ k_ ≠ zar))) (fun _ hk => hk.2) (.int .i64 t152)) (fun _ hk => hk.1.2)⟩, ⟨by (with_reducible repeat (first | refine blk_drewN ?_ _ | refine blk_drew ?_ | refine blk_alloc ?_ _)); refine blk_put (cs := #[.bool true, .int .i64 0, .int .i64 (wrap64 (Int.tdiv t146 2)), .string (⟨#[]⟩ : ByteArray)]) ?_ 1 _ rfl; (with_reducible repeat (first | refine blk_drewN ?_ _ | refine blk_drew ?_ | refine blk_alloc ?_ _)); exact zas.out⟩, ⟨by repeat (first | (with_reducible first | exact HI135.out | apply IsS70.alloc | apply IsS70.drewN | apply IsS70.drew | apply IsS70.set_0 | apply IsS70.set_1 | apply IsS70.set_2 | apply IsS70.set_3 | refine IsS70.far ?_ zav.out _) | exact HI135.out)⟩, ⟨by repeat (first | (with_reducible first | exact HB.out | apply below_alloc | apply pw_below_drewN | apply below_drew1 | refine below_set ?_ (IsS70.ge HI135.out) | refine below_set ?_ zau.out) | exact HB.out)⟩⟩
              · rw [if_neg c18] at H
                have c18b0 : ((Go.bits .and .i64 t146 1) == 1) = false := beq_eq_false_iff_ne.mpr c18
                have c18b1 : ((Go.bits .and .i64 t146 1) != 1) = true := bne_iff_ne.mpr c18
                (first | rw [c18b0] | (simp only [i64_w, i32_w]; rw [c18b0]) | skip)
                replace H := Option.bind_eq_some_iff.mp H
                obtain ⟨⟨t157, t158, t159, t160, t161⟩, A230, H⟩ := H
                replace H : (delta_Take_p.j2 kj3 a0 x4_1 t158 t159 t160 t161 ((Go.bits .and .i64 t146 1) == 1) 0 (wrap64 (Int.tdiv t146 2)) t157) = some (r1, r2) := H
                have A23 := Aside0.mk A230
                clear A230
                have H' := Aside0.mk H
                clear H
                have zaX := zaw.out
                have zaY := zav.out
                have zaZ : w15.cell? ⟨zar, 0, none⟩ = some (.bool false) := (blk_cell zas.out 0).trans rfl
                have za0 : w15.cell? ⟨zar, 1, none⟩ = some (.int .i64 0) := (blk_cell zas.out 1).trans rfl
                have za1 : w15.cell? ⟨zar, 2, none⟩ = some (.int .i64 0) := (blk_cell zas.out 2).trans rfl
                have za2 : w15.cell? ⟨zar, 3, none⟩ = some (.string (⟨#[]⟩ : ByteArray)) := (blk_cell zas.out 3).trans rfl
                have za3 := blk_frozen zas.out 0
                have za4 := blk_frozen zas.out 1
                have za5 := blk_frozen zas.out 2
                have za6 := blk_frozen zas.out 3
                go_wp2_with (first | ((with_reducible refine gate_callee (f := 33) rfl ?_); refine M.goes (some 36) Try.func33 #[.pointer (some ⟨g135, 0, none⟩), .int .i64 (wrap64 (Int.tdiv t146 2))] rfl ?_; (with_reducible refine (scan_Scan_Fix.calls g135 t147 t148 t149 t150 (wrap64 (Int.tdiv t146 2)) t157 t158 t159 t160 t161 w _ ?side1 ?side2 A23.out).mono ?_); (case side1 => repeat (first | (with_reducible first | exact HI135.out | apply IsS70.alloc | apply IsS70.drewN | apply IsS70.drew | apply IsS70.set_0 | apply IsS70.set_1 | apply IsS70.set_2 | apply IsS70.set_3 | refine IsS70.far ?_ zav.out _) | exact HI135.out)); (case side2 => repeat (first | (with_reducible first | exact HB.out | apply below_alloc | apply pw_below_drewN | apply below_drew1 | refine below_set ?_ (IsS70.ge HI135.out) | refine below_set ?_ zau.out) | exact HB.out)); rintro e w26 ⟨rfl, hi, hb, hk⟩; refine ⟨_, rfl, ?_⟩; have n0_ := Aside0.mk (Kd.R_mono (Kd.R_keep (IsS70.apart (show IsS70 w _ g135 t147 t148 t149 t150 from by repeat (first | (with_reducible first | exact HI135.out | apply IsS70.alloc | apply IsS70.drewN | apply IsS70.drew | apply IsS70.set_0 | apply IsS70.set_1 | apply IsS70.set_2 | apply IsS70.set_3 | refine IsS70.far ?_ zav.out _) | exact HI135.out)) (by (with_reducible repeat (first | apply Kd.R_alloc | apply Kd.R_drewN | apply Kd.R_drew)); exact (Kd.R_mono (Kd.R_far (p := ⟨zar, 3, none⟩) (Kd.R_far (p := ⟨zar, 2, none⟩) (Kd.R_far (p := ⟨zar, 1, none⟩) (Kd.R_far (p := ⟨zar, 0, none⟩) (Kd.R_mono zam.out (fun k_ hk => (⟨hk, hk.2⟩ : _ ∧ k_ ≠ zar))) (fun _ hk => hk.2) (.bool false)) (fun _ hk => hk.2) (.int .i64 0)) (fun _ hk => hk.2) (.int .i64 (wrap64 (Int.tdiv t146 2)))) (fun _ hk => hk.2) (.string (⟨#[]⟩ : ByteArray))) (fun _ h_ => h_.1))) (by decide)) hk (fun _ h => h.2)) (fun _ h => h.1)); have n1_ := Aside0.mk (KeepBut.blk hk (g' := zar) (o := .cells #[.bool false, .int .i64 0, .int .i64 (wrap64 (Int.tdiv t146 2)), .string (⟨#[]⟩ : ByteArray)] 34 (0, 0)) (by (with_reducible repeat (first | refine blk_drewN ?_ _ | refine blk_drew ?_ | refine blk_alloc ?_ _)); refine blk_put (cs := #[.bool false, .int .i64 0, .int .i64 (wrap64 (Int.tdiv t146 2)), .string (⟨#[]⟩ : ByteArray)]) ?_ 3 _ rfl; (with_reducible repeat (first | refine blk_drewN ?_ _ | refine blk_drew ?_ | refine blk_alloc ?_ _)); refine blk_put (cs := #[.bool false, .int .i64 0, .int .i64 0, .string (⟨#[]⟩ : ByteArray)]) ?_ 2 _ rfl; (with_reducible repeat (first | refine blk_drewN ?_ _ | refine blk_drew ?_ | refine blk_alloc ?_ _)); refine blk_put (cs := #[.bool false, .int .i64 0, .int .i64 0, .string (⟨#[]⟩ : ByteArray)]) ?_ 1 _ rfl; (with_reducible repeat (first | refine blk_drewN ?_ _ | refine blk_drew ?_ | refine blk_alloc ?_ _)); refine blk_put (cs := #[.bool false, .int .i64 0, .int .i64 0, .string (⟨#[]⟩ : ByteArray)]) ?_ 0 _ rfl; (with_reducible repeat (first | refine blk_drewN ?_ _ | refine blk_drew ?_ | refine blk_alloc ?_ _)); exact zas.out) zaw.out (by simp)); have n2_ := Aside0.mk (hb); have n3_ := Aside0.mk (hi); clear zam zas HB HI135; have zam := n0_; have zas := n1_; have HB := n2_; have HI135 := n3_; clear n0_ n1_ n2_ n3_; (try clear hb); (try clear hk); (try clear hi); have za7 : w26.cell? ⟨zar, 0, none⟩ = some (.bool false) := (blk_cell zas.out 0).trans rfl; have za8 : w26.cell? ⟨zar, 1, none⟩ = some (.int .i64 0) := (blk_cell zas.out 1).trans rfl; have za9 : w26.cell? ⟨zar, 2, none⟩ = some (.int .i64 (wrap64 (Int.tdiv t146 2))) := (blk_cell zas.out 2).trans rfl; have zba : w26.cell? ⟨zar, 3, none⟩ = some (.string (⟨#[]⟩ : ByteArray)) := (blk_cell zas.out 3).trans rfl; have zbb := blk_frozen zas.out 0; have zbc := blk_frozen zas.out 1; have zbd := blk_frozen zas.out 2; have zbe := blk_frozen zas.out 3))
                go_meet
                case rel => (try rw [c18b0]); (try rw [c18b0] at H'); exact ⟨_, (t158), (t159), (t160), (t161), (0), (t157), H', ⟨by have := HK1.out; have := HJ3.out; first | omega | exact Nat.le_refl _⟩, ⟨by (with_reducible repeat (first | apply Kd.R_alloc | apply Kd.R_drewN | apply Kd.R_drew)); exact Kd.R_mono (Kd.R_far (p := ⟨zar, 3, none⟩) (Kd.R_mono zam.out (fun k_ hk => (⟨hk, hk.2⟩ : _ ∧ k_ ≠ zar))) (fun _ hk => hk.2) (.string t157)) (fun _ hk => hk.1.2)⟩, ⟨by (with_reducible repeat (first | refine blk_drewN ?_ _ | refine blk_drew ?_ | refine blk_alloc ?_ _)); refine blk_put (cs := #[.bool false, .int .i64 0, .int .i64 (wrap64 (Int.tdiv t146 2)), .string (⟨#[]⟩ : ByteArray)]) ?_ 3 _ rfl; (with_reducible repeat (first | refine blk_drewN ?_ _ | refine blk_drew ?_ | refine blk_alloc ?_ _)); exact zas.out⟩, ⟨by repeat (first | (with_reducible first | exact HI135.out | apply IsS70.alloc | apply IsS70.drewN | apply IsS70.drew | apply IsS70.set_0 | apply IsS70.set_1 | apply IsS70.set_2 | apply IsS70.set_3 | refine IsS70.far ?_ zav.out _) | exact HI135.out)⟩, ⟨by repeat (first | (with_reducible first | exact HB.out | apply below_alloc | apply pw_below_drewN | apply below_drew1 | refine below_set ?_ (IsS70.ge HI135.out) | refine below_set ?_ zau.out) | exact HB.out)⟩⟩
            case rest =>
              clear HC13
              try clear c1
              try clear c2
              try clear p2
              try clear c3
              try clear c6
              try clear c6b0
              try clear c6b1
              try clear p6
              try clear c11
              try clear c16
              try clear c18
              try clear c18b0
              try clear c18b1
              try clear c19
              try clear c21
              try clear c24
              try clear zaz
              try clear zaA
              try clear zaB
              try clear zaC
              try clear zaP
              try clear zaQ
              try clear zaR
              try clear zaS
              try clear zaZ
              try clear za0
              try clear za1
              try clear za2
              try clear za7
              try clear za8
              try clear za9
              try clear zba
              try clear zaD
              try clear zaE
              try clear zaF
              try clear zaG
              try clear zaT
              try clear zaU
              try clear zaV
              try clear zaW
              try clear za3
              try clear za4
              try clear za5
              try clear za6
              try clear zbb
              try clear zbc
              try clear zbd
              try clear zbe
              try clear p2
              obtain ⟨kq, zaH, zaI, zaJ, zaK, zaL, zaM, HA, HJ12, zam, zas, HI135, HB⟩ := hcut
              cases kq with
              | zero => exact absurd HA.out (by simp [delta_Take_p.j2])
              | succ kj12 =>
                have H := HA.out
                clear HA
                simp only [delta_Take_p.j2] at H
                replace H := Option.bind_eq_some_iff.mp H
                obtain ⟨⟨t162, t163, t164, t165, t166⟩, A280, H⟩ := H
                replace H : (if t162 = 0 then ((delta_Check.f ((Go.bits .and .i64 t146 1) == 1) zaL (wrap64 (Int.tdiv t146 2)) zaM).bind fun t167 => (if t167 = 0 then (if x4_1.length < 3518437208883 then (delta_Take_p.l0 kj12 a0 (x4_1 ++ [(⟨((Go.bits .and .i64 t146 1) == 1), zaL, (wrap64 (Int.tdiv t146 2)), zaM⟩ : S34)]) t163 t164 t165 t166) else (none)) else ((scan_Scan_Fail.f t163 t164 t165 t166 3).bind fun bt171 => (if x4_1.length < 3518437208883 then (delta_Take_p.l0 kj12 a0 (x4_1 ++ [(⟨((Go.bits .and .i64 t146 1) == 1), zaL, (wrap64 (Int.tdiv t146 2)), zaM⟩ : S34)]) bt171.1 bt171.2.1 bt171.2.2.1 bt171.2.2.2) else (none))))) else (if x4_1.length < 3518437208883 then (delta_Take_p.l0 kj12 a0 (x4_1 ++ [(⟨((Go.bits .and .i64 t146 1) == 1), zaL, (wrap64 (Int.tdiv t146 2)), zaM⟩ : S34)]) t163 t164 t165 t166) else (none))) = some (r1, r2) := H
                have A28 := Aside0.mk A280
                clear A280
                by_cases c29 : t162 = 0
                · rw [if_pos c29] at H
                  have c29b0 : (t162 == 0) = true := beq_iff_eq.mpr c29
                  have c29b1 : (t162 != 0) = false := bne_eq_false_iff_eq.mpr c29
                  clear c29
                  replace H := Option.bind_eq_some_iff.mp H
                  obtain ⟨t167, A300, H⟩ := H
                  replace H : (if t167 = 0 then (if x4_1.length < 3518437208883 then (delta_Take_p.l0 kj12 a0 (x4_1 ++ [(⟨((Go.bits .and .i64 t146 1) == 1), zaL, (wrap64 (Int.tdiv t146 2)), zaM⟩ : S34)]) t163 t164 t165 t166) else (none)) else ((scan_Scan_Fail.f t163 t164 t165 t166 3).bind fun bt171 => (if x4_1.length < 3518437208883 then (delta_Take_p.l0 kj12 a0 (x4_1 ++ [(⟨((Go.bits .and .i64 t146 1) == 1), zaL, (wrap64 (Int.tdiv t146 2)), zaM⟩ : S34)]) bt171.1 bt171.2.1 bt171.2.2.1 bt171.2.2.2) else (none)))) = some (r1, r2) := H
                  have A30 := Aside0.mk A300
                  clear A300
                  by_cases c31 : t167 = 0
                  · rw [if_pos c31] at H
                    have c31b0 : (t167 == 0) = true := beq_iff_eq.mpr c31
                    have c31b1 : (t167 != 0) = false := bne_eq_false_iff_eq.mpr c31
                    clear c31
                    by_cases c32 : x4_1.length < 3518437208883
                    · rw [if_pos c32] at H
                      have LMc32 := Aside0.mk c32
                      clear c32
                      obtain ⟨y168, hy168⟩ : ∃ y_ : List (S34), y_ = (x4_1 ++ [(⟨((Go.bits .and .i64 t146 1) == 1), zaL, (wrap64 (Int.tdiv t146 2)), zaM⟩ : S34)]) := ⟨_, rfl⟩
                      replace H : (delta_Take_p.l0 kj12 a0 y168 t163 t164 t165 t166) = some (r1, r2) := by first | (rw [hy168]; with_reducible exact H) | (have H2_ := (Option.bind_some _ _).symm.trans H; rw [hy168]; with_reducible exact H2_) | (have H2_ := (Option.bind_some _ _).symm.trans H; with_reducible exact H2_) | with_reducible exact H | (rw [hy168]; exact H) | exact H
                      have Ny168 := Aside0.mk hy168
                      clear hy168
                      have H' := Aside0.mk H
                      clear H
                      go_wp2_with (first | ((with_reducible refine gate_callee (f := 30) rfl ?_); refine M.goes (some 39) Try.func30 #[.pointer (some ⟨g135, 0, none⟩)] rfl ?_; (with_reducible refine (scan_Scan_Err.calls g135 zaH zaI zaJ zaK t162 t163 t164 t165 t166 w _ ?side1 ?side2 A28.out).mono ?_); (case side1 => repeat (first | (with_reducible first | exact HI135.out | apply IsS70.alloc | apply IsS70.drewN | apply IsS70.drew | apply IsS70.set_0 | apply IsS70.set_1 | apply IsS70.set_2 | apply IsS70.set_3 | refine IsS70.far ?_ zav.out _) | exact HI135.out)); (case side2 => repeat (first | (with_reducible first | exact HB.out | apply below_alloc | apply pw_below_drewN | apply below_drew1 | refine below_set ?_ (IsS70.ge HI135.out) | refine below_set ?_ zau.out) | exact HB.out)); rintro e w33 ⟨rfl, hi, hb, hk⟩; refine ⟨_, rfl, ?_⟩; have n0_ := Aside0.mk (Kd.R_mono (Kd.R_keep (IsS70.apart (show IsS70 w _ g135 zaH zaI zaJ zaK from by repeat (first | (with_reducible first | exact HI135.out | apply IsS70.alloc | apply IsS70.drewN | apply IsS70.drew | apply IsS70.set_0 | apply IsS70.set_1 | apply IsS70.set_2 | apply IsS70.set_3 | refine IsS70.far ?_ zav.out _) | exact HI135.out)) (M.ro zam) (by decide)) hk (fun _ h => h.2)) (fun _ h => h.1)); have n1_ := Aside0.mk (KeepBut.blk hk (g' := zar) (o := .cells #[.bool ((Go.bits .and .i64 t146 1) == 1), .int .i64 zaL, .int .i64 (wrap64 (Int.tdiv t146 2)), .string zaM] 34 (0, 0)) (M.bk zas) zaw.out (by simp)); have n2_ := Aside0.mk (hb); have n3_ := Aside0.mk (hi); clear zam zas HB HI135; have zam := n0_; have zas := n1_; have HB := n2_; have HI135 := n3_; clear n0_ n1_ n2_ n3_; (try clear hb); (try clear hk); (try clear hi); have zbf := zaw.out; have zbg := zav.out; have zbh : w33.cell? ⟨zar, 0, none⟩ = some (.bool ((Go.bits .and .i64 t146 1) == 1)) := (blk_cell zas.out 0).trans rfl; have zbi : w33.cell? ⟨zar, 1, none⟩ = some (.int .i64 zaL) := (blk_cell zas.out 1).trans rfl; have zbj : w33.cell? ⟨zar, 2, none⟩ = some (.int .i64 (wrap64 (Int.tdiv t146 2))) := (blk_cell zas.out 2).trans rfl; have zbk : w33.cell? ⟨zar, 3, none⟩ = some (.string zaM) := (blk_cell zas.out 3).trans rfl; have zbl := blk_frozen zas.out 0; have zbm := blk_frozen zas.out 1; have zbn := blk_frozen zas.out 2; have zbo := blk_frozen zas.out 3) | (go_at_call 14; (with_reducible refine (delta_Check.calls ((Go.bits .and .i64 t146 1) == 1) zaL (wrap64 (Int.tdiv t146 2)) zaM t167 _ A30.out).mono ?_); rintro e w36 ⟨rfl, hb⟩; have n0_ := M.roB zam hb; have n1_ := M.bkB zas hb; have n2_ := Aside0.mk (IsS70.below (by repeat (first | (with_reducible first | exact HI135.out | apply IsS70.alloc | apply IsS70.drewN | apply IsS70.drew | apply IsS70.set_0 | apply IsS70.set_1 | apply IsS70.set_2 | apply IsS70.set_3 | refine IsS70.far ?_ zav.out _) | exact HI135.out)) hb); have n3_ := Aside0.mk (below_step (by repeat (first | (with_reducible first | exact HB.out | apply below_alloc | apply pw_below_drewN | apply below_drew1 | refine below_set ?_ (IsS70.ge HI135.out) | refine below_set ?_ zau.out) | exact HB.out)) hb); clear zam zas HI135 HB; have zam := n0_; have zas := n1_; have HI135 := n2_; have HB := n3_; clear n0_ n1_ n2_ n3_; (try clear hb); (try clear hb2); (try clear hk); (try clear hi); have zbp : w36.cell? ⟨zar, 0, none⟩ = some (.bool ((Go.bits .and .i64 t146 1) == 1)) := (blk_cell zas.out 0).trans rfl; have zbq : w36.cell? ⟨zar, 1, none⟩ = some (.int .i64 zaL) := (blk_cell zas.out 1).trans rfl; have zbr : w36.cell? ⟨zar, 2, none⟩ = some (.int .i64 (wrap64 (Int.tdiv t146 2))) := (blk_cell zas.out 2).trans rfl; have zbs : w36.cell? ⟨zar, 3, none⟩ = some (.string zaM) := (blk_cell zas.out 3).trans rfl; have zbt := blk_frozen zas.out 0; have zbu := blk_frozen zas.out 1; have zbv := blk_frozen zas.out 2; have zbw := blk_frozen zas.out 3) | ((with_reducible refine gate_builtin (b := .append) (xs := #[.tmp 48, .tmp 50]) rfl ?_); (try (refine gate_guard (by rfl) ?_; dsimp only)); at_builtin; refine Kd.R_append k34 (w0 := w) w.heap.size rfl (.tmp 48) (.tmp 50) 23 34 (.agg #[(.bool false), (.int .i64 0), (.int .i64 0), (.string ⟨#[]⟩)]) 40 rfl Try.underlying23 info34 rfl (by decide) (by omega) u4 x4_1 (⟨((Go.bits .and .i64 t146 1) == 1), zaL, (wrap64 (Int.tdiv t146 2)), zaM⟩ : S34) [.bool ((Go.bits .and .i64 t146 1) == 1), .int .i64 zaL, .int .i64 (wrap64 (Int.tdiv t146 2)), .string zaM] (fun k_ => k_ ≠ zar) (fun _ => False) rfl rfl ?aP (fun _ hk => hk.elim) ?aF ?aO ?aB ?aS ?aL ?_; (case aP => exact k34_mkM _ _ _ (⟨((Go.bits .and .i64 t146 1) == 1), zaL, (wrap64 (Int.tdiv t146 2)), zaM⟩ : S34)); (case aB => exact (by repeat (first | (with_reducible first | exact HB.out | apply below_alloc | apply pw_below_drewN | apply below_drew1 | refine below_set ?_ (IsS70.ge HI135.out) | refine below_set ?_ zau.out) | exact HB.out))); (case aF => exact (fun k_ hk => Kd.freshB (g := zar) (o := .cells #[.bool ((Go.bits .and .i64 t146 1) == 1), .int .i64 zaL, .int .i64 (wrap64 (Int.tdiv t146 2)), .string zaM] 34 (0, 0)) (M.bk zas) k_ hk)); (case aO => exact (M.ro zam)); (case aS => exact (below_size (by repeat (first | (with_reducible first | exact HB.out | apply below_alloc | apply pw_below_drewN | apply below_drew1 | refine below_set ?_ (IsS70.ge HI135.out) | refine below_set ?_ zau.out) | exact HB.out)))); (case aL => have := LMc32.out; omega); intro v169 w38 ho hb hg hat; rw [← Ny168.out] at ho; have n0_ := Aside0.mk (blk_grown (g := zar) (o := .cells #[.bool ((Go.bits .and .i64 t146 1) == 1), .int .i64 zaL, .int .i64 (wrap64 (Int.tdiv t146 2)), .string zaM] 34 (0, 0)) (M.bk zas) hg (Kd.R_away zam.out (fun _ hk => hk))); have n1_ := Aside0.mk (IsS70.grown (by first | exact HI135.out | exact IsS70.far HI135.out zav.out _ | (repeat (first | (with_reducible first | exact HI135.out | apply IsS70.alloc | apply IsS70.drewN | apply IsS70.drew | apply IsS70.set_0 | apply IsS70.set_1 | apply IsS70.set_2 | apply IsS70.set_3 | refine IsS70.far ?_ zav.out _) | exact HI135.out))) hg (IsS70.own_ne HI135.out zam.out (by decide))); have n2_ := Aside0.mk (hb); have n3_ := Aside0.mk (ho); clear zas HI135 HB zam; have zas := n0_; have HI135 := n1_; have HB := n2_; have HO170 := n3_; clear n0_ n1_ n2_ n3_; clear ho hb hg hat))
                      go_roundg kj12
                      case measure => have := HK1.out; have := HJ3.out; have := HJ12.out; omega
                      case rel => exact ⟨(y168), (t163), (t164), (t165), (t166), H', ⟨by have := HK1.out; have := HJ3.out; have := HJ12.out; omega⟩, ⟨by (with_reducible repeat (first | apply Kd.R_alloc | apply Kd.R_drewN | apply Kd.R_drew)); exact Kd.R_mono HO170.out (fun _ hk => trivial)⟩, ⟨by repeat (first | (with_reducible first | exact HI135.out | apply IsS70.alloc | apply IsS70.drewN | apply IsS70.drew | apply IsS70.set_0 | apply IsS70.set_1 | apply IsS70.set_2 | apply IsS70.set_3 | refine IsS70.far ?_ zav.out _) | exact HI135.out)⟩, ⟨by repeat (first | (with_reducible first | exact HB.out | apply below_alloc | apply pw_below_drewN | apply below_drew1 | refine below_set ?_ (IsS70.ge HI135.out) | refine below_set ?_ zau.out) | exact HB.out)⟩⟩
                    · rw [if_neg c32] at H
                      exact absurd H (by simp)
                  · rw [if_neg c31] at H
                    have c31b0 : (t167 == 0) = false := beq_eq_false_iff_ne.mpr c31
                    have c31b1 : (t167 != 0) = true := bne_iff_ne.mpr c31
                    replace H := Option.bind_eq_some_iff.mp H
                    obtain ⟨⟨t171, t172, t173, t174⟩, A390, H⟩ := H
                    replace H : (if x4_1.length < 3518437208883 then (delta_Take_p.l0 kj12 a0 (x4_1 ++ [(⟨((Go.bits .and .i64 t146 1) == 1), zaL, (wrap64 (Int.tdiv t146 2)), zaM⟩ : S34)]) t171 t172 t173 t174) else (none)) = some (r1, r2) := H
                    have A39 := Aside0.mk A390
                    clear A390
                    by_cases c40 : x4_1.length < 3518437208883
                    · rw [if_pos c40] at H
                      have LMc40 := Aside0.mk c40
                      clear c40
                      obtain ⟨y175, hy175⟩ : ∃ y_ : List (S34), y_ = (x4_1 ++ [(⟨((Go.bits .and .i64 t146 1) == 1), zaL, (wrap64 (Int.tdiv t146 2)), zaM⟩ : S34)]) := ⟨_, rfl⟩
                      replace H : (delta_Take_p.l0 kj12 a0 y175 t171 t172 t173 t174) = some (r1, r2) := by first | (rw [hy175]; with_reducible exact H) | (have H2_ := (Option.bind_some _ _).symm.trans H; rw [hy175]; with_reducible exact H2_) | (have H2_ := (Option.bind_some _ _).symm.trans H; with_reducible exact H2_) | with_reducible exact H | (rw [hy175]; exact H) | exact H
                      have Ny175 := Aside0.mk hy175
                      clear hy175
                      have H' := Aside0.mk H
                      clear H
                      go_wp2_with (first | ((with_reducible refine gate_callee (f := 30) rfl ?_); refine M.goes (some 39) Try.func30 #[.pointer (some ⟨g135, 0, none⟩)] rfl ?_; (with_reducible refine (scan_Scan_Err.calls g135 zaH zaI zaJ zaK t162 t163 t164 t165 t166 w _ ?side1 ?side2 A28.out).mono ?_); (case side1 => repeat (first | (with_reducible first | exact HI135.out | apply IsS70.alloc | apply IsS70.drewN | apply IsS70.drew | apply IsS70.set_0 | apply IsS70.set_1 | apply IsS70.set_2 | apply IsS70.set_3 | refine IsS70.far ?_ zav.out _) | exact HI135.out)); (case side2 => repeat (first | (with_reducible first | exact HB.out | apply below_alloc | apply pw_below_drewN | apply below_drew1 | refine below_set ?_ (IsS70.ge HI135.out) | refine below_set ?_ zau.out) | exact HB.out)); rintro e w41 ⟨rfl, hi, hb, hk⟩; refine ⟨_, rfl, ?_⟩; have n0_ := Aside0.mk (Kd.R_mono (Kd.R_keep (IsS70.apart (show IsS70 w _ g135 zaH zaI zaJ zaK from by repeat (first | (with_reducible first | exact HI135.out | apply IsS70.alloc | apply IsS70.drewN | apply IsS70.drew | apply IsS70.set_0 | apply IsS70.set_1 | apply IsS70.set_2 | apply IsS70.set_3 | refine IsS70.far ?_ zav.out _) | exact HI135.out)) (M.ro zam) (by decide)) hk (fun _ h => h.2)) (fun _ h => h.1)); have n1_ := Aside0.mk (KeepBut.blk hk (g' := zar) (o := .cells #[.bool ((Go.bits .and .i64 t146 1) == 1), .int .i64 zaL, .int .i64 (wrap64 (Int.tdiv t146 2)), .string zaM] 34 (0, 0)) (M.bk zas) zaw.out (by simp)); have n2_ := Aside0.mk (hb); have n3_ := Aside0.mk (hi); clear zam zas HB HI135; have zam := n0_; have zas := n1_; have HB := n2_; have HI135 := n3_; clear n0_ n1_ n2_ n3_; (try clear hb); (try clear hk); (try clear hi); have zbx := zaw.out; have zby := zav.out; have zbz : w41.cell? ⟨zar, 0, none⟩ = some (.bool ((Go.bits .and .i64 t146 1) == 1)) := (blk_cell zas.out 0).trans rfl; have zbA : w41.cell? ⟨zar, 1, none⟩ = some (.int .i64 zaL) := (blk_cell zas.out 1).trans rfl; have zbB : w41.cell? ⟨zar, 2, none⟩ = some (.int .i64 (wrap64 (Int.tdiv t146 2))) := (blk_cell zas.out 2).trans rfl; have zbC : w41.cell? ⟨zar, 3, none⟩ = some (.string zaM) := (blk_cell zas.out 3).trans rfl; have zbD := blk_frozen zas.out 0; have zbE := blk_frozen zas.out 1; have zbF := blk_frozen zas.out 2; have zbG := blk_frozen zas.out 3) | (go_at_call 14; (with_reducible refine (delta_Check.calls ((Go.bits .and .i64 t146 1) == 1) zaL (wrap64 (Int.tdiv t146 2)) zaM t167 _ A30.out).mono ?_); rintro e w44 ⟨rfl, hb⟩; have n0_ := M.roB zam hb; have n1_ := M.bkB zas hb; have n2_ := Aside0.mk (IsS70.below (by repeat (first | (with_reducible first | exact HI135.out | apply IsS70.alloc | apply IsS70.drewN | apply IsS70.drew | apply IsS70.set_0 | apply IsS70.set_1 | apply IsS70.set_2 | apply IsS70.set_3 | refine IsS70.far ?_ zav.out _) | exact HI135.out)) hb); have n3_ := Aside0.mk (below_step (by repeat (first | (with_reducible first | exact HB.out | apply below_alloc | apply pw_below_drewN | apply below_drew1 | refine below_set ?_ (IsS70.ge HI135.out) | refine below_set ?_ zau.out) | exact HB.out)) hb); clear zam zas HI135 HB; have zam := n0_; have zas := n1_; have HI135 := n2_; have HB := n3_; clear n0_ n1_ n2_ n3_; (try clear hb); (try clear hb2); (try clear hk); (try clear hi)) | ((with_reducible refine gate_callee (f := 34) rfl ?_); refine M.goes (some 47) Try.func34 #[.pointer (some ⟨g135, 0, none⟩), .int .i64 3] rfl ?_; (with_reducible refine (scan_Scan_Fail.calls g135 t163 t164 t165 t166 3 t171 t172 t173 t174 w _ ?side1 ?side2 A39.out).mono ?_); (case side1 => repeat (first | (with_reducible first | exact HI135.out | apply IsS70.alloc | apply IsS70.drewN | apply IsS70.drew | apply IsS70.set_0 | apply IsS70.set_1 | apply IsS70.set_2 | apply IsS70.set_3 | refine IsS70.far ?_ zav.out _) | exact HI135.out)); (case side2 => repeat (first | (with_reducible first | exact HB.out | apply below_alloc | apply pw_below_drewN | apply below_drew1 | refine below_set ?_ (IsS70.ge HI135.out) | refine below_set ?_ zau.out) | exact HB.out)); rintro e w45 ⟨rfl, hi, hb, hk⟩; refine ⟨_, rfl, ?_⟩; have n0_ := Aside0.mk (Kd.R_mono (Kd.R_keep (IsS70.apart (show IsS70 w _ g135 t163 t164 t165 t166 from by repeat (first | (with_reducible first | exact HI135.out | apply IsS70.alloc | apply IsS70.drewN | apply IsS70.drew | apply IsS70.set_0 | apply IsS70.set_1 | apply IsS70.set_2 | apply IsS70.set_3 | refine IsS70.far ?_ zav.out _) | exact HI135.out)) (M.ro zam) (by decide)) hk (fun _ h => h.2)) (fun _ h => h.1)); have n1_ := Aside0.mk (KeepBut.blk hk (g' := zar) (o := .cells #[.bool ((Go.bits .and .i64 t146 1) == 1), .int .i64 zaL, .int .i64 (wrap64 (Int.tdiv t146 2)), .string zaM] 34 (0, 0)) (M.bk zas) zaw.out (by simp)); have n2_ := Aside0.mk (hb); have n3_ := Aside0.mk (hi); clear zam zas HB HI135; have zam := n0_; have zas := n1_; have HB := n2_; have HI135 := n3_; clear n0_ n1_ n2_ n3_; (try clear hb); (try clear hk); (try clear hi); have zbH : w45.cell? ⟨zar, 0, none⟩ = some (.bool ((Go.bits .and .i64 t146 1) == 1)) := (blk_cell zas.out 0).trans rfl; have zbI : w45.cell? ⟨zar, 1, none⟩ = some (.int .i64 zaL) := (blk_cell zas.out 1).trans rfl; have zbJ : w45.cell? ⟨zar, 2, none⟩ = some (.int .i64 (wrap64 (Int.tdiv t146 2))) := (blk_cell zas.out 2).trans rfl; have zbK : w45.cell? ⟨zar, 3, none⟩ = some (.string zaM) := (blk_cell zas.out 3).trans rfl; have zbL := blk_frozen zas.out 0; have zbM := blk_frozen zas.out 1; have zbN := blk_frozen zas.out 2; have zbO := blk_frozen zas.out 3) | ((with_reducible refine gate_builtin (b := .append) (xs := #[.tmp 48, .tmp 50]) rfl ?_); (try (refine gate_guard (by rfl) ?_; dsimp only)); at_builtin; refine Kd.R_append k34 (w0 := w) w.heap.size rfl (.tmp 48) (.tmp 50) 23 34 (.agg #[(.bool false), (.int .i64 0), (.int .i64 0), (.string ⟨#[]⟩)]) 40 rfl Try.underlying23 info34 rfl (by decide) (by omega) u4 x4_1 (⟨((Go.bits .and .i64 t146 1) == 1), zaL, (wrap64 (Int.tdiv t146 2)), zaM⟩ : S34) [.bool ((Go.bits .and .i64 t146 1) == 1), .int .i64 zaL, .int .i64 (wrap64 (Int.tdiv t146 2)), .string zaM] (fun k_ => k_ ≠ zar) (fun _ => False) rfl rfl ?aP (fun _ hk => hk.elim) ?aF ?aO ?aB ?aS ?aL ?_; (case aP => exact k34_mkM _ _ _ (⟨((Go.bits .and .i64 t146 1) == 1), zaL, (wrap64 (Int.tdiv t146 2)), zaM⟩ : S34)); (case aB => exact (by repeat (first | (with_reducible first | exact HB.out | apply below_alloc | apply pw_below_drewN | apply below_drew1 | refine below_set ?_ (IsS70.ge HI135.out) | refine below_set ?_ zau.out) | exact HB.out))); (case aF => exact (fun k_ hk => Kd.freshB (g := zar) (o := .cells #[.bool ((Go.bits .and .i64 t146 1) == 1), .int .i64 zaL, .int .i64 (wrap64 (Int.tdiv t146 2)), .string zaM] 34 (0, 0)) (M.bk zas) k_ hk)); (case aO => exact (M.ro zam)); (case aS => exact (below_size (by repeat (first | (with_reducible first | exact HB.out | apply below_alloc | apply pw_below_drewN | apply below_drew1 | refine below_set ?_ (IsS70.ge HI135.out) | refine below_set ?_ zau.out) | exact HB.out)))); (case aL => have := LMc40.out; omega); intro v176 w47 ho hb hg hat; rw [← Ny175.out] at ho; have n0_ := Aside0.mk (blk_grown (g := zar) (o := .cells #[.bool ((Go.bits .and .i64 t146 1) == 1), .int .i64 zaL, .int .i64 (wrap64 (Int.tdiv t146 2)), .string zaM] 34 (0, 0)) (M.bk zas) hg (Kd.R_away zam.out (fun _ hk => hk))); have n1_ := Aside0.mk (IsS70.grown (by first | exact HI135.out | exact IsS70.far HI135.out zav.out _ | (repeat (first | (with_reducible first | exact HI135.out | apply IsS70.alloc | apply IsS70.drewN | apply IsS70.drew | apply IsS70.set_0 | apply IsS70.set_1 | apply IsS70.set_2 | apply IsS70.set_3 | refine IsS70.far ?_ zav.out _) | exact HI135.out))) hg (IsS70.own_ne HI135.out zam.out (by decide))); have n2_ := Aside0.mk (hb); have n3_ := Aside0.mk (ho); clear zas HI135 HB zam; have zas := n0_; have HI135 := n1_; have HB := n2_; have HO177 := n3_; clear n0_ n1_ n2_ n3_; clear ho hb hg hat))
                      go_roundg kj12
                      case measure => have := HK1.out; have := HJ3.out; have := HJ12.out; omega
                      case rel => exact ⟨(y175), (t171), (t172), (t173), (t174), H', ⟨by have := HK1.out; have := HJ3.out; have := HJ12.out; omega⟩, ⟨by (with_reducible repeat (first | apply Kd.R_alloc | apply Kd.R_drewN | apply Kd.R_drew)); exact Kd.R_mono HO177.out (fun _ hk => trivial)⟩, ⟨by repeat (first | (with_reducible first | exact HI135.out | apply IsS70.alloc | apply IsS70.drewN | apply IsS70.drew | apply IsS70.set_0 | apply IsS70.set_1 | apply IsS70.set_2 | apply IsS70.set_3 | refine IsS70.far ?_ zav.out _) | exact HI135.out)⟩, ⟨by repeat (first | (with_reducible first | exact HB.out | apply below_alloc | apply pw_below_drewN | apply below_drew1 | refine below_set ?_ (IsS70.ge HI135.out) | refine below_set ?_ zau.out) | exact HB.out)⟩⟩
                    · rw [if_neg c40] at H
                      exact absurd H (by simp)
                · rw [if_neg c29] at H
                  have c29b0 : (t162 == 0) = false := beq_eq_false_iff_ne.mpr c29
                  have c29b1 : (t162 != 0) = true := bne_iff_ne.mpr c29
                  by_cases c48 : x4_1.length < 3518437208883
                  · rw [if_pos c48] at H
                    have LMc48 := Aside0.mk c48
                    clear c48
                    obtain ⟨y178, hy178⟩ : ∃ y_ : List (S34), y_ = (x4_1 ++ [(⟨((Go.bits .and .i64 t146 1) == 1), zaL, (wrap64 (Int.tdiv t146 2)), zaM⟩ : S34)]) := ⟨_, rfl⟩
                    replace H : (delta_Take_p.l0 kj12 a0 y178 t163 t164 t165 t166) = some (r1, r2) := by first | (rw [hy178]; with_reducible exact H) | (have H2_ := (Option.bind_some _ _).symm.trans H; rw [hy178]; with_reducible exact H2_) | (have H2_ := (Option.bind_some _ _).symm.trans H; with_reducible exact H2_) | with_reducible exact H | (rw [hy178]; exact H) | exact H
                    have Ny178 := Aside0.mk hy178
                    clear hy178
                    have H' := Aside0.mk H
                    clear H
                    go_wp2_with (first | ((with_reducible refine gate_callee (f := 30) rfl ?_); refine M.goes (some 39) Try.func30 #[.pointer (some ⟨g135, 0, none⟩)] rfl ?_; (with_reducible refine (scan_Scan_Err.calls g135 zaH zaI zaJ zaK t162 t163 t164 t165 t166 w _ ?side1 ?side2 A28.out).mono ?_); (case side1 => repeat (first | (with_reducible first | exact HI135.out | apply IsS70.alloc | apply IsS70.drewN | apply IsS70.drew | apply IsS70.set_0 | apply IsS70.set_1 | apply IsS70.set_2 | apply IsS70.set_3 | refine IsS70.far ?_ zav.out _) | exact HI135.out)); (case side2 => repeat (first | (with_reducible first | exact HB.out | apply below_alloc | apply pw_below_drewN | apply below_drew1 | refine below_set ?_ (IsS70.ge HI135.out) | refine below_set ?_ zau.out) | exact HB.out)); rintro e w49 ⟨rfl, hi, hb, hk⟩; refine ⟨_, rfl, ?_⟩; have n0_ := Aside0.mk (Kd.R_mono (Kd.R_keep (IsS70.apart (show IsS70 w _ g135 zaH zaI zaJ zaK from by repeat (first | (with_reducible first | exact HI135.out | apply IsS70.alloc | apply IsS70.drewN | apply IsS70.drew | apply IsS70.set_0 | apply IsS70.set_1 | apply IsS70.set_2 | apply IsS70.set_3 | refine IsS70.far ?_ zav.out _) | exact HI135.out)) (M.ro zam) (by decide)) hk (fun _ h => h.2)) (fun _ h => h.1)); have n1_ := Aside0.mk (KeepBut.blk hk (g' := zar) (o := .cells #[.bool ((Go.bits .and .i64 t146 1) == 1), .int .i64 zaL, .int .i64 (wrap64 (Int.tdiv t146 2)), .string zaM] 34 (0, 0)) (M.bk zas) zaw.out (by simp)); have n2_ := Aside0.mk (hb); have n3_ := Aside0.mk (hi); clear zam zas HB HI135; have zam := n0_; have zas := n1_; have HB := n2_; have HI135 := n3_; clear n0_ n1_ n2_ n3_; (try clear hb); (try clear hk); (try clear hi); have zbP := zaw.out; have zbQ := zav.out; have zbR : w49.cell? ⟨zar, 0, none⟩ = some (.bool ((Go.bits .and .i64 t146 1) == 1)) := (blk_cell zas.out 0).trans rfl; have zbS : w49.cell? ⟨zar, 1, none⟩ = some (.int .i64 zaL) := (blk_cell zas.out 1).trans rfl; have zbT : w49.cell? ⟨zar, 2, none⟩ = some (.int .i64 (wrap64 (Int.tdiv t146 2))) := (blk_cell zas.out 2).trans rfl; have zbU : w49.cell? ⟨zar, 3, none⟩ = some (.string zaM) := (blk_cell zas.out 3).trans rfl; have zbV := blk_frozen zas.out 0; have zbW := blk_frozen zas.out 1; have zbX := blk_frozen zas.out 2; have zbY := blk_frozen zas.out 3) | ((with_reducible refine gate_builtin (b := .append) (xs := #[.tmp 48, .tmp 50]) rfl ?_); (try (refine gate_guard (by rfl) ?_; dsimp only)); at_builtin; refine Kd.R_append k34 (w0 := w) w.heap.size rfl (.tmp 48) (.tmp 50) 23 34 (.agg #[(.bool false), (.int .i64 0), (.int .i64 0), (.string ⟨#[]⟩)]) 40 rfl Try.underlying23 info34 rfl (by decide) (by omega) u4 x4_1 (⟨((Go.bits .and .i64 t146 1) == 1), zaL, (wrap64 (Int.tdiv t146 2)), zaM⟩ : S34) [.bool ((Go.bits .and .i64 t146 1) == 1), .int .i64 zaL, .int .i64 (wrap64 (Int.tdiv t146 2)), .string zaM] (fun k_ => k_ ≠ zar) (fun _ => False) rfl rfl ?aP (fun _ hk => hk.elim) ?aF ?aO ?aB ?aS ?aL ?_; (case aP => exact k34_mkM _ _ _ (⟨((Go.bits .and .i64 t146 1) == 1), zaL, (wrap64 (Int.tdiv t146 2)), zaM⟩ : S34)); (case aB => exact (by repeat (first | (with_reducible first | exact HB.out | apply below_alloc | apply pw_below_drewN | apply below_drew1 | refine below_set ?_ (IsS70.ge HI135.out) | refine below_set ?_ zau.out) | exact HB.out))); (case aF => exact (fun k_ hk => Kd.freshB (g := zar) (o := .cells #[.bool ((Go.bits .and .i64 t146 1) == 1), .int .i64 zaL, .int .i64 (wrap64 (Int.tdiv t146 2)), .string zaM] 34 (0, 0)) (M.bk zas) k_ hk)); (case aO => exact (M.ro zam)); (case aS => exact (below_size (by repeat (first | (with_reducible first | exact HB.out | apply below_alloc | apply pw_below_drewN | apply below_drew1 | refine below_set ?_ (IsS70.ge HI135.out) | refine below_set ?_ zau.out) | exact HB.out)))); (case aL => have := LMc48.out; omega); intro v179 w52 ho hb hg hat; rw [← Ny178.out] at ho; have n0_ := Aside0.mk (blk_grown (g := zar) (o := .cells #[.bool ((Go.bits .and .i64 t146 1) == 1), .int .i64 zaL, .int .i64 (wrap64 (Int.tdiv t146 2)), .string zaM] 34 (0, 0)) (M.bk zas) hg (Kd.R_away zam.out (fun _ hk => hk))); have n1_ := Aside0.mk (IsS70.grown (by first | exact HI135.out | exact IsS70.far HI135.out zav.out _ | (repeat (first | (with_reducible first | exact HI135.out | apply IsS70.alloc | apply IsS70.drewN | apply IsS70.drew | apply IsS70.set_0 | apply IsS70.set_1 | apply IsS70.set_2 | apply IsS70.set_3 | refine IsS70.far ?_ zav.out _) | exact HI135.out))) hg (IsS70.own_ne HI135.out zam.out (by decide))); have n2_ := Aside0.mk (hb); have n3_ := Aside0.mk (ho); clear zas HI135 HB zam; have zas := n0_; have HI135 := n1_; have HB := n2_; have HO180 := n3_; clear n0_ n1_ n2_ n3_; clear ho hb hg hat))
                    go_roundg kj12
                    case measure => have := HK1.out; have := HJ3.out; have := HJ12.out; omega
                    case rel => exact ⟨(y178), (t163), (t164), (t165), (t166), H', ⟨by have := HK1.out; have := HJ3.out; have := HJ12.out; omega⟩, ⟨by (with_reducible repeat (first | apply Kd.R_alloc | apply Kd.R_drewN | apply Kd.R_drew)); exact Kd.R_mono HO180.out (fun _ hk => trivial)⟩, ⟨by repeat (first | (with_reducible first | exact HI135.out | apply IsS70.alloc | apply IsS70.drewN | apply IsS70.drew | apply IsS70.set_0 | apply IsS70.set_1 | apply IsS70.set_2 | apply IsS70.set_3 | refine IsS70.far ?_ zav.out _) | exact HI135.out)⟩, ⟨by repeat (first | (with_reducible first | exact HB.out | apply below_alloc | apply pw_below_drewN | apply below_drew1 | refine below_set ?_ (IsS70.ge HI135.out) | refine below_set ?_ zau.out) | exact HB.out)⟩⟩
                  · rw [if_neg c48] at H
                    exact absurd H (by simp)
          · replace c11 := Bool.eq_false_iff.mpr c11
            subst c11
            have H1 : ((scan_Scan_End.f zan zao zap zaq).bind fun bt181 => (if bt181.1 = 0 then (some (x4_1, 0)) else (some (([] : List (S34)), 3)))) = some (r1, r2) := by rw [if_neg (show ¬ (false = true) by decide)] at H; exact H
            clear H
            have H := H1
            clear H1
            replace H := Option.bind_eq_some_iff.mp H
            obtain ⟨⟨t181, t182, t183, t184, t185⟩, A530, H⟩ := H
            replace H : (if t181 = 0 then (some (x4_1, 0)) else (some (([] : List (S34)), 3))) = some (r1, r2) := H
            have A53 := Aside0.mk A530
            clear A530
            by_cases c54 : t181 = 0
            · rw [if_pos c54] at H
              have c54b0 : (t181 == 0) = true := beq_iff_eq.mpr c54
              have c54b1 : (t181 != 0) = false := bne_eq_false_iff_eq.mpr c54
              clear c54
              simp only [Option.some.injEq, Prod.mk.injEq] at H
              obtain ⟨rfl, rfl⟩ := H
              go_wp2_with (first | ((with_reducible refine gate_callee (f := 35) rfl ?_); refine M.goes (some 53) Try.func35 #[.pointer (some ⟨g135, 0, none⟩)] rfl ?_; (with_reducible refine (scan_Scan_End.calls g135 zan zao zap zaq t181 t182 t183 t184 t185 w _ ?side1 ?side2 A53.out).mono ?_); (case side1 => repeat (first | (with_reducible first | exact HI135.out | apply IsS70.alloc | apply IsS70.drewN | apply IsS70.drew | apply IsS70.set_0 | apply IsS70.set_1 | apply IsS70.set_2 | apply IsS70.set_3) | exact HI135.out)); (case side2 => repeat (first | (with_reducible first | exact HB.out | apply below_alloc | apply pw_below_drewN | apply below_drew1 | refine below_set ?_ (IsS70.ge HI135.out)) | exact HB.out)); rintro e w55 ⟨rfl, hi, hb, hk⟩; refine ⟨_, rfl, ?_⟩; have n0_ := Aside0.mk (Kd.R_mono (Kd.R_keep (IsS70.apart (show IsS70 w _ g135 zan zao zap zaq from by repeat (first | (with_reducible first | exact HI135.out | apply IsS70.alloc | apply IsS70.drewN | apply IsS70.drew | apply IsS70.set_0 | apply IsS70.set_1 | apply IsS70.set_2 | apply IsS70.set_3) | exact HI135.out)) (M.ro zam) (by decide)) hk (fun _ h => h.2)) (fun _ h => h.1)); have n1_ := Aside0.mk (hb); have n2_ := Aside0.mk (hi); clear zam HB HI135; have zam := n0_; have HB := n1_; have HI135 := n2_; clear n0_ n1_ n2_; (try clear hb); (try clear hk); (try clear hi)))
              go_ret2
              exact ⟨_, by first | rfl | (simp [errW_none, errW_some] <;> rfl) | (simp [*, errW_none, errW_some] <;> rfl), by (with_reducible repeat (first | apply Kd.R_alloc | apply Kd.R_drewN | apply Kd.R_drew)); exact zam.out, by repeat (first | (with_reducible first | exact HB.out | apply below_alloc | apply pw_below_drewN | apply below_drew1 | refine below_set ?_ (IsS70.ge HI135.out)) | exact HB.out)⟩
            · rw [if_neg c54] at H
              have c54b0 : (t181 == 0) = false := beq_eq_false_iff_ne.mpr c54
              have c54b1 : (t181 != 0) = true := bne_iff_ne.mpr c54
              simp only [Option.some.injEq, Prod.mk.injEq] at H
              obtain ⟨rfl, rfl⟩ := H
              go_wp2_with (first | ((with_reducible refine gate_callee (f := 35) rfl ?_); refine M.goes (some 53) Try.func35 #[.pointer (some ⟨g135, 0, none⟩)] rfl ?_; (with_reducible refine (scan_Scan_End.calls g135 zan zao zap zaq t181 t182 t183 t184 t185 w _ ?side1 ?side2 A53.out).mono ?_); (case side1 => repeat (first | (with_reducible first | exact HI135.out | apply IsS70.alloc | apply IsS70.drewN | apply IsS70.drew | apply IsS70.set_0 | apply IsS70.set_1 | apply IsS70.set_2 | apply IsS70.set_3) | exact HI135.out)); (case side2 => repeat (first | (with_reducible first | exact HB.out | apply below_alloc | apply pw_below_drewN | apply below_drew1 | refine below_set ?_ (IsS70.ge HI135.out)) | exact HB.out)); rintro e w56 ⟨rfl, hi, hb, hk⟩; refine ⟨_, rfl, ?_⟩; have n0_ := Aside0.mk (Kd.R_mono (Kd.R_keep (IsS70.apart (show IsS70 w _ g135 zan zao zap zaq from by repeat (first | (with_reducible first | exact HI135.out | apply IsS70.alloc | apply IsS70.drewN | apply IsS70.drew | apply IsS70.set_0 | apply IsS70.set_1 | apply IsS70.set_2 | apply IsS70.set_3) | exact HI135.out)) (M.ro zam) (by decide)) hk (fun _ h => h.2)) (fun _ h => h.1)); have n1_ := Aside0.mk (hb); have n2_ := Aside0.mk (hi); clear zam HB HI135; have zam := n0_; have HB := n1_; have HI135 := n2_; clear n0_ n1_ n2_; (try clear hb); (try clear hk); (try clear hi)))
              go_ret2
              exact ⟨_, by first | rfl | (simp [errW_none, errW_some] <;> rfl) | (simp [*, errW_none, errW_some] <;> rfl), by first | exact Kd.R_nil _ _ _ _ _ | exact Kd.N_nil _ _ _ _ _ | exact Kd.V_nil _ _ _ _ _ | exact Kd.Q_nil _ _ _ _ _ | exact Kd.S_nil _ _ _ _ _, by repeat (first | (with_reducible first | exact HB.out | apply below_alloc | apply pw_below_drewN | apply below_drew1 | refine below_set ?_ (IsS70.ge HI135.out)) | exact HB.out)⟩

-- this session's own plain form
def delta_Take.un (p : M.Pc) : S34 := ⟨p.1, p.2.1, p.2.2.1, p.2.2.2⟩
def delta_Take.res (out : List S34) : Option (List M.Pc) → List S34 × Int
  | some l => (out ++ l.map delta_Take.un, 0)
  | none => ([], 3)
def delta_Take.f (s : ByteArray) : Option (List S34 × Int) := if s.size ≤ 1000000000 then some (delta_Take.res [] (M.dtake s (s.size + 1) 0)) else none
theorem delta_Take.dead (s : ByteArray) (k : Nat) (out : List S34) (p er : Int) (he : er ≠ 0) : delta_Take_p.l0 (k + 1 + 1) s out s p er true = some ([], 3) := by
  rw [delta_Take_p.l0, scan_Scan_Err.f, if_pos rfl, Option.bind_some]
  simp only
  rw [if_neg he, delta_Take_p.j1, if_neg (by simp), scan_Scan_End.eq, Option.bind_some]
  simp only
  have : M.xend s p er ≠ 0 := by unfold M.xend; rw [if_neg (fun z => he z.1)]; exact he
  rw [if_neg this]
theorem delta_Take.and1 {n : Int} (h0 : 0 ≤ n) (h1 : n < 9223372036854775808) : Go.bits .and .i64 n 1 = n % 2 := by
  show IntKind.i64.wrap ((BitVec.ofInt 64 n &&& BitVec.ofInt 64 1).toNat : Int) = _
  rw [M.i64_wrap]
  have e : ((BitVec.ofInt 64 n &&& BitVec.ofInt 64 1).toNat : Int) = n % 2 := by
    rw [BitVec.toNat_and]
    have e1 : (BitVec.ofInt 64 n).toNat = n.toNat := by
      have := M.bv_toNat n
      omega
    rw [e1, show (BitVec.ofInt 64 1).toNat = 1 from by decide, Nat.and_one_is_mod]
    omega
  rw [e, M.wrap64_id (by omega) (by omega)]
theorem delta_Take.loop (s : ByteArray) (hz : s.size ≤ 1000000000) (d : Nat) : ∀ (p : Int) (out : List S34), M.sok s p → (s.size : Int) - p < d → out.length ≤ 1000000000 + p →
    ∃ k, delta_Take_p.l0 k s out s p 0 true = some (delta_Take.res out (M.dtake s d p)) := by
  induction d with
  | zero => intro p out h h1; have := h.2.1; omega
  | succ d ih =>
    intro p out h h1 h2
    by_cases hp : p < (s.size : Int)
    · rw [M.dtake_go hp]
      have hpn := h.1
      have k1 := M.xnum_ok s 0 131073 h
      have r1 := M.xnum_range s (er := 0) h (most := 131073) (by decide) (by decide)
      have r4 := M.xnum_range s (er := 0) h (most := 4294967295) (by decide) (by decide)
      have low := M.xnum_low (s := s) (p := p) (er := 0) (m1 := 131073) (m2 := 4294967295) (by decide) (by decide)
      have start : ∀ k, delta_Take_p.l0 (k + 1 + 1) s out s p 0 true = (scan_Scan_Num.f s p 0 true 131073).bind fun bt146 => (if (Go.bits .and .i64 bt146.1 1) = 1 then ((scan_Scan_Num.f bt146.2.1 bt146.2.2.1 bt146.2.2.2.1 bt146.2.2.2.2 65536).bind fun bt152 => (delta_Take_p.j2 k s out bt152.2.1 bt152.2.2.1 bt152.2.2.2.1 bt152.2.2.2.2 ((Go.bits .and .i64 bt146.1 1) == 1) bt152.1 (wrap64 (Int.tdiv bt146.1 2)) (⟨#[]⟩ : ByteArray))) else ((scan_Scan_Fix.f bt146.2.1 bt146.2.2.1 bt146.2.2.2.1 bt146.2.2.2.2 (wrap64 (Int.tdiv bt146.1 2))).bind fun bt157 => (delta_Take_p.j2 k s out bt157.2.1 bt157.2.2.1 bt157.2.2.2.1 bt157.2.2.2.2 ((Go.bits .and .i64 bt146.1 1) == 1) 0 (wrap64 (Int.tdiv bt146.1 2)) bt157.1))) := by
        intro k
        rw [delta_Take_p.l0, scan_Scan_Err.f, if_pos rfl, Option.bind_some]
        simp only
        rw [if_pos trivial, scan_Scan_At.f, Option.bind_some]
        simp only
        rw [delta_Take_p.j1, if_pos (decide_eq_true hp)]
      have fin : ∀ (c : Bool) (a n : Int) (o : ByteArray) (q e : Int), (e = 0 ∧ M.pok c a n o = true → M.sok s q ∧ p < q) →
          ∃ k, delta_Take_p.j2 k s out s q e true c a n o = some (delta_Take.res out ((if e = 0 ∧ M.pok c a n o = true then some (((c, a, n, o) : M.Pc), q) else none : Option (M.Pc × Int)).bind fun y => (M.dtake s d y.2).map (y.1 :: ·))) := by
        intro c a n o q e hq
        have hps := h.2.1
        by_cases he : e = 0
        · subst he
          by_cases hk : M.pok c a n o = true
          · obtain ⟨k2, g2⟩ := hq ⟨rfl, hk⟩
            obtain ⟨k, hk2⟩ := ih q (out ++ [⟨c, a, n, o⟩]) k2 (by omega) (by rw [List.length_append, List.length_singleton]; omega)
            refine ⟨k + 1, ?_⟩
            rw [delta_Take_p.j2, scan_Scan_Err.f, if_pos rfl, Option.bind_some]
            simp only
            rw [if_pos trivial, delta_Check.f, Option.bind_some, if_pos hk, if_pos rfl, if_pos (by omega), hk2, if_pos ⟨trivial, hk⟩, Option.bind_some]
            simp only
            cases M.dtake s d q with
            | none => rfl
            | some l => simp only [delta_Take.res, Option.map_some, List.append_assoc, List.singleton_append, List.map_cons, delta_Take.un]
          · refine ⟨0 + 1 + 1 + 1, ?_⟩
            rw [delta_Take_p.j2, scan_Scan_Err.f, if_pos rfl, Option.bind_some]
            simp only
            rw [if_pos trivial, delta_Check.f, Option.bind_some, if_neg hk, if_neg (by decide), scan_Scan_Fail.f, if_neg (by decide), scan_Scan_fail.f, scan_Scan_Err.f, if_pos rfl, Option.bind_some]
            simp only
            rw [if_pos trivial, Option.bind_some, Option.bind_some, if_pos (by omega), delta_Take.dead _ _ _ _ 3 (by decide), if_neg (fun z => hk z.2)]
            rfl
        · refine ⟨0 + 1 + 1 + 1, ?_⟩
          rw [delta_Take_p.j2, scan_Scan_Err.f, if_pos rfl, Option.bind_some]
          simp only
          rw [if_neg he, if_pos (by omega), delta_Take.dead _ _ _ _ _ he, if_neg (fun z => he z.1)]
          rfl
      have hsp : ∀ (x : M.Pc) (q : Int), M.dstep s p = some (x, q) → M.pk x = true ∧ p < q ∧ M.sok s q ∧ M.span s p q (M.pput x) := fun x q hd => M.dstep_span h hd
      have gn : ∀ (c : Int × ByteArray × Int × Int × Bool → Option (List S34 × Int)), (scan_Scan_Num.f s p 0 true 131073).bind c = c ((M.xnum s p 0 131073).1, s, (M.xnum s p 0 131073).2.1, (M.xnum s p 0 131073).2.2, true) := by
        intro c; rw [scan_Scan_Num.eq _ _ _ _ h (by decide), Option.bind_some]
      have gn2 : ∀ (c : Int × ByteArray × Int × Int × Bool → Option (List S34 × Int)), (scan_Scan_Num.f s (M.xnum s p 0 131073).2.1 (M.xnum s p 0 131073).2.2 true 65536).bind c = c ((M.xnum s (M.xnum s p 0 131073).2.1 (M.xnum s p 0 131073).2.2 65536).1, s, (M.xnum s (M.xnum s p 0 131073).2.1 (M.xnum s p 0 131073).2.2 65536).2.1, (M.xnum s (M.xnum s p 0 131073).2.1 (M.xnum s p 0 131073).2.2 65536).2.2, true) := by
        intro c; rw [scan_Scan_Num.eq _ _ _ _ k1 (by decide), Option.bind_some]
      have gf : ∀ (c : ByteArray × ByteArray × Int × Int × Bool → Option (List S34 × Int)), (scan_Scan_Fix.f s (M.xnum s p 0 131073).2.1 (M.xnum s p 0 131073).2.2 true ((M.xnum s p 0 131073).1 / 2)).bind c = c ((M.xfix s (M.xnum s p 0 131073).2.1 (M.xnum s p 0 131073).2.2 ((M.xnum s p 0 131073).1 / 2)).1, s, (M.xfix s (M.xnum s p 0 131073).2.1 (M.xnum s p 0 131073).2.2 ((M.xnum s p 0 131073).1 / 2)).2.1, (M.xfix s (M.xnum s p 0 131073).2.1 (M.xnum s p 0 131073).2.2 ((M.xnum s p 0 131073).1 / 2)).2.2, true) := by
        intro c; unfold scan_Scan_Fix.f scan_Scan_take.f; rw [if_pos rfl, if_pos ⟨k1, by omega, by omega⟩, Option.bind_some]
      have ht := delta_Take.and1 (n := (M.xnum s p 0 131073).1) r1.1 (by omega)
      have hv : wrap64 (Int.tdiv (M.xnum s p 0 131073).1 2) = (M.xnum s p 0 131073).1 / 2 := by
        rw [Int.tdiv_eq_ediv_of_nonneg r1.1, M.wrap64_id (by omega) (by omega)]
      by_cases hg : (M.xnum s p 0 131073).2.2 = 0
      · -- the number is within the bound
        have e4 := low.1 hg
        unfold M.dstep at hsp ⊢
        rw [e4] at hsp ⊢
        by_cases ho : (M.xnum s p 0 131073).1 % 2 = 1
        · rw [if_pos ho] at hsp ⊢
          have low2 := M.xnum_low (s := s) (p := (M.xnum s p 0 131073).2.1) (er := (M.xnum s p 0 131073).2.2) (m1 := 65536) (m2 := 4294967295) (by decide) (by decide)
          by_cases hg2 : (M.xnum s (M.xnum s p 0 131073).2.1 (M.xnum s p 0 131073).2.2 65536).2.2 = 0
          · rw [low2.1 hg2] at hsp ⊢
            obtain ⟨k, hk⟩ := fin true _ ((M.xnum s p 0 131073).1 / 2) ⟨#[]⟩ _ (M.xnum s (M.xnum s p 0 131073).2.1 (M.xnum s p 0 131073).2.2 65536).2.2 (fun z => by have := hsp _ _ (if_pos z); exact ⟨this.2.2.1, this.2.1⟩)
            refine ⟨k + 1 + 1, ?_⟩
            rw [start, gn]
            simp only
            rw [ht, if_pos ho, gn2, hv]
            simp only
            rw [ho]
            exact hk
          · have hbad : ¬ ((M.xnum s (M.xnum s p 0 131073).2.1 (M.xnum s p 0 131073).2.2 4294967295).2.2 = 0 ∧ M.pok true (M.xnum s (M.xnum s p 0 131073).2.1 (M.xnum s p 0 131073).2.2 4294967295).1 ((M.xnum s p 0 131073).1 / 2) ⟨#[]⟩ = true) := by
              rintro ⟨z1, z2⟩
              have := M.pok_copy z2
              rcases low2.2 hg2 with z | z
              · exact z z1
              · omega
            rw [if_neg hbad]
            obtain ⟨k, hk⟩ := fin true (M.xnum s (M.xnum s p 0 131073).2.1 (M.xnum s p 0 131073).2.2 65536).1 ((M.xnum s p 0 131073).1 / 2) ⟨#[]⟩ (M.xnum s (M.xnum s p 0 131073).2.1 (M.xnum s p 0 131073).2.2 65536).2.1 (M.xnum s (M.xnum s p 0 131073).2.1 (M.xnum s p 0 131073).2.2 65536).2.2 (fun z => absurd z.1 hg2)
            rw [if_neg (fun z => hg2 z.1)] at hk
            refine ⟨k + 1 + 1, ?_⟩
            rw [start, gn]
            simp only
            rw [ht, if_pos ho, gn2, hv]
            simp only
            rw [ho]
            exact hk
        · rw [if_neg ho] at hsp ⊢
          obtain ⟨k, hk⟩ := fin false 0 ((M.xnum s p 0 131073).1 / 2) (M.xfix s (M.xnum s p 0 131073).2.1 (M.xnum s p 0 131073).2.2 ((M.xnum s p 0 131073).1 / 2)).1 _ (M.xfix s (M.xnum s p 0 131073).2.1 (M.xnum s p 0 131073).2.2 ((M.xnum s p 0 131073).1 / 2)).2.2 (fun z => by have := hsp _ _ (if_pos z); exact ⟨this.2.2.1, this.2.1⟩)
          refine ⟨k + 1 + 1, ?_⟩
          rw [start, gn]
          simp only
          rw [ht, if_neg ho, hv, gf]
          simp only
          rw [show ((M.xnum s p 0 131073).1 % 2 == 1) = false from by simpa using ho]
          exact hk
      · -- no number, or a greater one
        have hbad : M.dstep s p = none := by
          cases hd : M.dstep s p with
          | none => rfl
          | some y =>
            exfalso
            obtain ⟨y, q⟩ := y
            unfold M.dstep at hd
            have k4 := M.xnum_ok s 0 4294967295 h
            split at hd
            · split at hd
              · rename_i hh
                have hs := (M.xnum_span k4 hh.1).1
                have := M.pok_len hh.2
                rcases low.2 hg with z | z
                · exact z hs
                · omega
              · cases hd
            · split at hd
              · rename_i hh
                have hs := (M.xfix_span k4 hh.1).1
                have := M.pok_len hh.2
                rcases low.2 hg with z | z
                · exact z hs
                · omega
              · cases hd
        rw [hbad]
        have any : ∀ (c : Bool) (a n : Int) (o : ByteArray) (q e : Int), e ≠ 0 → ∃ k, delta_Take_p.j2 k s out s q e true c a n o = some (delta_Take.res out none) := by
          intro c a n o q e he
          obtain ⟨k, hk⟩ := fin c a n o q e (fun z => absurd z.1 he)
          rw [if_neg (fun z => he z.1)] at hk
          exact ⟨k, hk⟩
        by_cases ho : (M.xnum s p 0 131073).1 % 2 = 1
        · have hg2 : (M.xnum s (M.xnum s p 0 131073).2.1 (M.xnum s p 0 131073).2.2 65536).2.2 ≠ 0 := fun z => hg (M.xnum_span k1 z).1
          obtain ⟨k, hk⟩ := any true (M.xnum s (M.xnum s p 0 131073).2.1 (M.xnum s p 0 131073).2.2 65536).1 ((M.xnum s p 0 131073).1 / 2) ⟨#[]⟩ (M.xnum s (M.xnum s p 0 131073).2.1 (M.xnum s p 0 131073).2.2 65536).2.1 _ hg2
          refine ⟨k + 1 + 1, ?_⟩
          rw [start, gn]
          simp only
          rw [ht, if_pos ho, gn2, hv]
          simp only
          rw [ho]
          exact hk
        · have hg2 : (M.xfix s (M.xnum s p 0 131073).2.1 (M.xnum s p 0 131073).2.2 ((M.xnum s p 0 131073).1 / 2)).2.2 ≠ 0 := fun z => hg (M.xfix_span k1 z).1
          obtain ⟨k, hk⟩ := any false 0 ((M.xnum s p 0 131073).1 / 2) (M.xfix s (M.xnum s p 0 131073).2.1 (M.xnum s p 0 131073).2.2 ((M.xnum s p 0 131073).1 / 2)).1 (M.xfix s (M.xnum s p 0 131073).2.1 (M.xnum s p 0 131073).2.2 ((M.xnum s p 0 131073).1 / 2)).2.1 _ hg2
          refine ⟨k + 1 + 1, ?_⟩
          rw [start, gn]
          simp only
          rw [ht, if_neg ho, hv, gf]
          simp only
          rw [show ((M.xnum s p 0 131073).1 % 2 == 1) = false from by simpa using ho]
          exact hk
    · refine ⟨0 + 1 + 1, ?_⟩
      rw [M.dtake, if_neg hp, delta_Take_p.l0, scan_Scan_Err.f, if_pos rfl, Option.bind_some]
      simp only
      rw [if_pos trivial, scan_Scan_At.f, Option.bind_some]
      simp only
      rw [delta_Take_p.j1, if_neg (by simpa using hp), scan_Scan_End.eq, Option.bind_some]
      simp only
      rw [if_pos (by unfold M.xend; rw [if_neg (fun z => hp z.2)])]
      simp [delta_Take.res]
theorem delta_Take.ev (s : ByteArray) (r : List S34 × Int) (h : delta_Take.f s = some r) : ∃ k, delta_Take_p.f k s = some r := by
  unfold delta_Take.f at h
  split at h
  case isFalse => cases h
  case isTrue hh =>
    obtain ⟨k, hk⟩ := delta_Take.loop s hh (s.size + 1) 0 [] ⟨by decide, by omega, by omega⟩ (by omega) (by simp)
    refine ⟨k, ?_⟩
    unfold delta_Take_p.f scan_New.f
    rw [Option.bind_some, hk, ← h]
theorem delta_Take.calls (a0 : ByteArray) (r1 : List (S34)) (r2 : Int) (w : World) (h : delta_Take.f a0 = some (r1, r2)) :
    Calls Try.prog 19 #[.string a0] w fun e w' => ∃ v0_ : Value, e = .returned (.tuple #[v0_, .int .i64 r2]) ∧ Kd.R k34 34 w' w.heap.size (fun _ => True) v0_ r1 ∧ Below w.heap.size w w' := by
  obtain ⟨k, hk⟩ := delta_Take.ev _ _ h
  exact delta_Take_p.calls (k := k) (w := w) (h := hk)

/-! ### pleachref11_Is_p: function 15 -/
def pleachref11_Is_p.j0 : Nat → Bool → Bool → Int → Int → ByteArray → Option (Bool)
  | 0, _, _, _, _, _ => none
  | k + 1, x10, zbZ, zb0, zb1, zb2 => if x10 = true then (some false) else (if zbZ = true then (if zb0 ≥ 0 then (if zb0 ≤ 65536 then (some (zb2.toList == ([] : List UInt8))) else (some false)) else (some false)) else (if zb0 = 0 then (some ((zb2.size : Int) == zb1)) else (some false)))
def pleachref11_Is_p.f (k : Nat) (a0_0 : Bool) (a0_1 : Int) (a0_2 : Int) (a0_3 : ByteArray) : Option (Bool) := if a0_2 < 1 then (pleachref11_Is_p.j0 k true a0_0 a0_1 a0_2 a0_3) else (pleachref11_Is_p.j0 k (decide (a0_2 > 65536)) a0_0 a0_1 a0_2 a0_3)
theorem pleachref11_Is_p.mono_l : ∀ k, (∀ y0 y1 y2 y3 y4, LeO (pleachref11_Is_p.j0 k y0 y1 y2 y3 y4) (pleachref11_Is_p.j0 (k + 1) y0 y1 y2 y3 y4))
  | 0 => fun _ _ _ _ _ r h => by simp [pleachref11_Is_p.j0] at h
  | k + 1 => by
    have ih0 := pleachref11_Is_p.mono_l k
    · intro y0 y1 y2 y3 y4
      unfold pleachref11_Is_p.j0
      repeat' first
      | (with_reducible exact ih0 _ _ _ _ _)
      | (with_reducible exact LeO.refl _)
      | (with_reducible exact LeO.none _)
      | (with_reducible refine LeO.ite ?_ ?_)
      | (with_reducible refine LeO.bind ?_ (fun _ => ?_))
      | exact ih0 _ _ _ _ _
      | exact LeO.none _
      | refine LeO.ite ?_ ?_
      | refine LeO.bind ?_ (fun _ => ?_)
theorem pleachref11_Is_p.mono : ∀ a0 a1 a2 a3 k, LeO (pleachref11_Is_p.f k a0 a1 a2 a3) (pleachref11_Is_p.f (k + 1) a0 a1 a2 a3) := by
  intro a0 a1 a2 a3 k
  have ih0 := pleachref11_Is_p.mono_l k
  unfold pleachref11_Is_p.f
  repeat' first
      | (with_reducible exact ih0 _ _ _ _ _)
      | (with_reducible exact LeO.refl _)
      | (with_reducible exact LeO.none _)
      | (with_reducible refine LeO.ite ?_ ?_)
      | (with_reducible refine LeO.bind ?_ (fun _ => ?_))
      | exact ih0 _ _ _ _ _
      | exact LeO.none _
      | refine LeO.ite ?_ ?_
      | refine LeO.bind ?_ (fun _ => ?_)
set_option maxHeartbeats 8000000 in
set_option maxRecDepth 100000 in
theorem pleachref11_Is_p.calls (k : Nat) (a0_0 : Bool) (a0_1 : Int) (a0_2 : Int) (a0_3 : ByteArray) (r : Bool) (w : World) (h : pleachref11_Is_p.f k a0_0 a0_1 a0_2 a0_3 = some r) :
    Calls Try.prog 15 #[.agg #[.bool a0_0, .int .i64 a0_1, .int .i64 a0_2, .string a0_3]] w fun e w' => e = .returned (.bool r) ∧ Below w.heap.size w w' := by
  have hu34 := Try.underlying34
  have HB := Aside0.mk (Below.refl w.heap.size w)
  have H : (if a0_2 < 1 then (pleachref11_Is_p.j0 k true a0_0 a0_1 a0_2 a0_3) else (pleachref11_Is_p.j0 k (decide (a0_2 > 65536)) a0_0 a0_1 a0_2 a0_3)) = some r := h
  clear h
  have HC2 := Aside0.mk H
  clear H
  go_enter Try.func15, Try.ntmps15
  go_upto_region 1 with (first | ((with_reducible refine gate_dst (N := 1) rfl ?_); (try (refine gate_guard (by rfl) ?_; dsimp only)); refine box_event ?hg (N := 1) ?hd (cs := #[.bool a0_0, .int .i64 a0_1, .int .i64 a0_2, .string a0_3]) (t := 34) ?hr ?_; (case hd => rfl); (case hg => rfl); (case hr => first | (go_simp; done) | (go_simp; rfl)); intro zb3 hg w3 hbox hb; have n0_ := M.upS HB hb; have n1_ := Aside0.mk (hbox); have n2_ := M.upG HB hg; have n3_ := M.upG HB hg; clear HB; have HB := n0_; have zb4 := n1_; have zb5 := n2_; have zb6 := n3_; clear n0_ n1_ n2_ n3_; clear hb hbox hg))
  (try simp only [Act.put, List.setIfInBounds_toArray, List.set_cons_zero, List.set_cons_succ])
  go_cut [10] (fun v10 wc => ∃ (kq : Nat) (x10_1 : Bool), v10 = .bool x10_1 ∧ Aside0 (pleachref11_Is_p.j0 kq x10_1 a0_0 a0_1 a0_2 a0_3 = some r) ∧ Aside0 (kq ≤ k) ∧ Aside0 (wc.heap[zb3]? = some (.cells #[.bool a0_0, .int .i64 a0_1, .int .i64 a0_2, .string a0_3] 34 (0, 0))) ∧ Aside0 (Below w.heap.size w wc))
  case first =>
    have H := HC2.out
    clear HC2
    by_cases c4 : a0_2 < 1
    · rw [if_pos c4] at H
      have c4b0 : decide (a0_2 < 1) = true := decide_eq_true c4
      clear c4
      (first | rw [c4b0] | (simp only [i64_w, i32_w]; rw [c4b0]) | skip)
      have H' := Aside0.mk H
      clear H
      have zb7 : w3.cell? ⟨zb3, 0, none⟩ = some (.bool a0_0) := (blk_cell zb4.out 0).trans rfl
      have zb8 : w3.cell? ⟨zb3, 1, none⟩ = some (.int .i64 a0_1) := (blk_cell zb4.out 1).trans rfl
      have zb9 : w3.cell? ⟨zb3, 2, none⟩ = some (.int .i64 a0_2) := (blk_cell zb4.out 2).trans rfl
      have zca : w3.cell? ⟨zb3, 3, none⟩ = some (.string a0_3) := (blk_cell zb4.out 3).trans rfl
      have zcb := blk_frozen zb4.out 0
      have zcc := blk_frozen zb4.out 1
      have zcd := blk_frozen zb4.out 2
      have zce := blk_frozen zb4.out 3
      go_wp2
      go_meet
      case rel => exact ⟨_, (true), (by first | rfl | (simp; done) | (simp [*]; done) | (simp [M.isEmpty_bne]; done)), H', ⟨by first | omega | exact Nat.le_refl _⟩, ⟨by (with_reducible repeat (first | refine blk_drewN ?_ _ | refine blk_drew ?_ | refine blk_alloc ?_ _)); exact zb4.out⟩, ⟨M.up HB⟩⟩
    · rw [if_neg c4] at H
      have c4b0 : decide (a0_2 < 1) = false := decide_eq_false c4
      clear c4
      (first | rw [c4b0] | (simp only [i64_w, i32_w]; rw [c4b0]) | skip)
      have H' := Aside0.mk H
      clear H
      have zcf : w3.cell? ⟨zb3, 0, none⟩ = some (.bool a0_0) := (blk_cell zb4.out 0).trans rfl
      have zcg : w3.cell? ⟨zb3, 1, none⟩ = some (.int .i64 a0_1) := (blk_cell zb4.out 1).trans rfl
      have zch : w3.cell? ⟨zb3, 2, none⟩ = some (.int .i64 a0_2) := (blk_cell zb4.out 2).trans rfl
      have zci : w3.cell? ⟨zb3, 3, none⟩ = some (.string a0_3) := (blk_cell zb4.out 3).trans rfl
      have zcj := blk_frozen zb4.out 0
      have zck := blk_frozen zb4.out 1
      have zcl := blk_frozen zb4.out 2
      have zcm := blk_frozen zb4.out 3
      go_wp2
      go_meet
      case rel => exact ⟨_, (decide (a0_2 > 65536)), (by first | rfl | (simp; done) | (simp [*]; done) | (simp [M.isEmpty_bne]; done)), H', ⟨by first | omega | exact Nat.le_refl _⟩, ⟨by (with_reducible repeat (first | refine blk_drewN ?_ _ | refine blk_drew ?_ | refine blk_alloc ?_ _)); exact zb4.out⟩, ⟨M.up HB⟩⟩
  case rest =>
    clear HC2
    try clear c1
    try clear p2
    try clear c4
    try clear c4b0
    try clear zb7
    try clear zb8
    try clear zb9
    try clear zca
    try clear zcf
    try clear zcg
    try clear zch
    try clear zci
    try clear zcb
    try clear zcc
    try clear zcd
    try clear zce
    try clear zcj
    try clear zck
    try clear zcl
    try clear zcm
    obtain ⟨kq, x10_1, rfl, HA, HJ1, zb4, HB⟩ := hcut
    cases kq with
    | zero => exact absurd HA.out (by simp [pleachref11_Is_p.j0])
    | succ kj1 =>
      have H := HA.out
      clear HA
      simp only [pleachref11_Is_p.j0] at H
      by_cases c7 : x10_1 = true
      · subst c7
        have H1 : (some false) = some r := by rw [if_pos rfl] at H; exact H
        clear H
        have H := H1
        clear H1
        obtain rfl := Option.some.inj H
        go_wp2
        go_ret
        exact M.fin (M.up HB)
      · replace c7 := Bool.eq_false_iff.mpr c7
        subst c7
        have H1 : (if a0_0 = true then (if a0_1 ≥ 0 then (if a0_1 ≤ 65536 then (some (a0_3.toList == ([] : List UInt8))) else (some false)) else (some false)) else (if a0_1 = 0 then (some ((a0_3.size : Int) == a0_2)) else (some false))) = some r := by rw [if_neg (show ¬ (false = true) by decide)] at H; exact H
        clear H
        have H := H1
        clear H1
        by_cases c8 : a0_0 = true
        · subst c8
          have H1 : (if a0_1 ≥ 0 then (if a0_1 ≤ 65536 then (some (a0_3.toList == ([] : List UInt8))) else (some false)) else (some false)) = some r := by rw [if_pos rfl] at H; exact H
          clear H
          have H := H1
          clear H1
          by_cases c9 : a0_1 ≥ 0
          · rw [if_pos c9] at H
            have c9b0 : decide (0 ≤ a0_1) = true := decide_eq_true c9
            clear c9
            by_cases c10 : a0_1 ≤ 65536
            · rw [if_pos c10] at H
              have c10b0 : decide (a0_1 ≤ 65536) = true := decide_eq_true c10
              clear c10
              obtain rfl := Option.some.inj H
              have zcn : wc.cell? ⟨zb3, 0, none⟩ = some (.bool true) := (blk_cell zb4.out 0).trans rfl
              have zco : wc.cell? ⟨zb3, 1, none⟩ = some (.int .i64 a0_1) := (blk_cell zb4.out 1).trans rfl
              have zcp : wc.cell? ⟨zb3, 2, none⟩ = some (.int .i64 a0_2) := (blk_cell zb4.out 2).trans rfl
              have zcq : wc.cell? ⟨zb3, 3, none⟩ = some (.string a0_3) := (blk_cell zb4.out 3).trans rfl
              have zcr := blk_frozen zb4.out 0
              have zcs := blk_frozen zb4.out 1
              have zct := blk_frozen zb4.out 2
              have zcu := blk_frozen zb4.out 3
              go_wp2
              go_ret
              exact M.fin (M.up HB)
            · rw [if_neg c10] at H
              have c10b0 : decide (a0_1 ≤ 65536) = false := decide_eq_false c10
              clear c10
              obtain rfl := Option.some.inj H
              have zcv : wc.cell? ⟨zb3, 0, none⟩ = some (.bool true) := (blk_cell zb4.out 0).trans rfl
              have zcw : wc.cell? ⟨zb3, 1, none⟩ = some (.int .i64 a0_1) := (blk_cell zb4.out 1).trans rfl
              have zcx : wc.cell? ⟨zb3, 2, none⟩ = some (.int .i64 a0_2) := (blk_cell zb4.out 2).trans rfl
              have zcy : wc.cell? ⟨zb3, 3, none⟩ = some (.string a0_3) := (blk_cell zb4.out 3).trans rfl
              have zcz := blk_frozen zb4.out 0
              have zcA := blk_frozen zb4.out 1
              have zcB := blk_frozen zb4.out 2
              have zcC := blk_frozen zb4.out 3
              go_wp2
              go_ret
              exact M.fin (M.up HB)
          · rw [if_neg c9] at H
            have c9b0 : decide (0 ≤ a0_1) = false := decide_eq_false c9
            clear c9
            obtain rfl := Option.some.inj H
            have zcD : wc.cell? ⟨zb3, 0, none⟩ = some (.bool true) := (blk_cell zb4.out 0).trans rfl
            have zcE : wc.cell? ⟨zb3, 1, none⟩ = some (.int .i64 a0_1) := (blk_cell zb4.out 1).trans rfl
            have zcF : wc.cell? ⟨zb3, 2, none⟩ = some (.int .i64 a0_2) := (blk_cell zb4.out 2).trans rfl
            have zcG : wc.cell? ⟨zb3, 3, none⟩ = some (.string a0_3) := (blk_cell zb4.out 3).trans rfl
            have zcH := blk_frozen zb4.out 0
            have zcI := blk_frozen zb4.out 1
            have zcJ := blk_frozen zb4.out 2
            have zcK := blk_frozen zb4.out 3
            go_wp2
            go_ret
            exact M.fin (M.up HB)
        · replace c8 := Bool.eq_false_iff.mpr c8
          subst c8
          have H1 : (if a0_1 = 0 then (some ((a0_3.size : Int) == a0_2)) else (some false)) = some r := by rw [if_neg (show ¬ (false = true) by decide)] at H; exact H
          clear H
          have H := H1
          clear H1
          by_cases c14 : a0_1 = 0
          · rw [if_pos c14] at H
            have c14b0 : (a0_1 == 0) = true := beq_iff_eq.mpr c14
            have c14b1 : (a0_1 != 0) = false := bne_eq_false_iff_eq.mpr c14
            clear c14
            obtain rfl := Option.some.inj H
            have zcL : wc.cell? ⟨zb3, 0, none⟩ = some (.bool false) := (blk_cell zb4.out 0).trans rfl
            have zcM : wc.cell? ⟨zb3, 1, none⟩ = some (.int .i64 a0_1) := (blk_cell zb4.out 1).trans rfl
            have zcN : wc.cell? ⟨zb3, 2, none⟩ = some (.int .i64 a0_2) := (blk_cell zb4.out 2).trans rfl
            have zcO : wc.cell? ⟨zb3, 3, none⟩ = some (.string a0_3) := (blk_cell zb4.out 3).trans rfl
            have zcP := blk_frozen zb4.out 0
            have zcQ := blk_frozen zb4.out 1
            have zcR := blk_frozen zb4.out 2
            have zcS := blk_frozen zb4.out 3
            go_wp2
            go_ret
            exact M.fin (M.up HB)
          · rw [if_neg c14] at H
            have c14b0 : (a0_1 == 0) = false := beq_eq_false_iff_ne.mpr c14
            have c14b1 : (a0_1 != 0) = true := bne_iff_ne.mpr c14
            obtain rfl := Option.some.inj H
            have zcT : wc.cell? ⟨zb3, 0, none⟩ = some (.bool false) := (blk_cell zb4.out 0).trans rfl
            have zcU : wc.cell? ⟨zb3, 1, none⟩ = some (.int .i64 a0_1) := (blk_cell zb4.out 1).trans rfl
            have zcV : wc.cell? ⟨zb3, 2, none⟩ = some (.int .i64 a0_2) := (blk_cell zb4.out 2).trans rfl
            have zcW : wc.cell? ⟨zb3, 3, none⟩ = some (.string a0_3) := (blk_cell zb4.out 3).trans rfl
            have zcX := blk_frozen zb4.out 0
            have zcY := blk_frozen zb4.out 1
            have zcZ := blk_frozen zb4.out 2
            have zc0 := blk_frozen zb4.out 3
            go_wp2
            go_ret
            exact M.fin (M.up HB)

-- this session's own plain form
def pleachref11_Is.f (c : Bool) (a n : Int) (o : ByteArray) : Option Bool := some (M.pok c a n o)
theorem pleachref11_Is.nil (s : ByteArray) : (s.toList == ([] : List UInt8)) = decide (s.size = 0) := by
  rw [M.toList_bs, ← M.bs_length]
  cases M.bs s <;> rfl
theorem pleachref11_Is.ev (c : Bool) (a n : Int) (o : ByteArray) (r : Bool) (h : pleachref11_Is.f c a n o = some r) : ∃ k, pleachref11_Is_p.f k c a n o = some r := by
  refine ⟨0 + 1, ?_⟩
  rw [← h]
  unfold pleachref11_Is_p.f pleachref11_Is.f M.pok
  by_cases h1 : n < 1
  · rw [if_pos h1, pleachref11_Is_p.j0, if_pos rfl]
    congr 1
    rw [decide_eq_false (by omega), Bool.false_and]
  · rw [if_neg h1, pleachref11_Is_p.j0]
    by_cases h2 : n > 65536
    · rw [if_pos (decide_eq_true h2)]
      congr 1
      rw [decide_eq_false (by omega), Bool.false_and]
    · rw [if_neg (by simp; omega), decide_eq_true (show 1 ≤ n ∧ n ≤ 65536 by omega), Bool.true_and]
      cases c with
      | true =>
        rw [if_pos rfl, if_pos rfl, pleachref11_Is.nil]
        by_cases h3 : a ≥ 0
        · rw [if_pos h3]
          by_cases h4 : a ≤ 65536
          · rw [if_pos h4]; congr 1; apply decide_eq_decide.2; omega
          · rw [if_neg h4]; congr 1; exact (decide_eq_false (by omega)).symm
        · rw [if_neg h3]; congr 1; exact (decide_eq_false (by omega)).symm
      | false =>
        rw [if_neg (show ¬ false = true by simp), if_neg (show ¬ false = true by simp)]
        by_cases h3 : a = 0
        · rw [if_pos h3]; congr 1; rw [show ((o.size : Int) == n) = decide ((o.size : Int) = n) from rfl]; apply decide_eq_decide.2; omega
        · rw [if_neg h3]; congr 1; exact (decide_eq_false (by omega)).symm
theorem pleachref11_Is.calls (a0_0 : Bool) (a0_1 : Int) (a0_2 : Int) (a0_3 : ByteArray) (r : Bool) (w : World) (h : pleachref11_Is.f a0_0 a0_1 a0_2 a0_3 = some r) :
    Calls Try.prog 15 #[.agg #[.bool a0_0, .int .i64 a0_1, .int .i64 a0_2, .string a0_3]] w fun e w' => e = .returned (.bool r) ∧ Below w.heap.size w w' := by
  obtain ⟨k, hk⟩ := pleachref11_Is.ev _ _ _ _ _ h
  exact pleachref11_Is_p.calls (k := k) (w := w) (h := hk)

end Go.Proofs.Ytadpicphohobbaa.EDeltaTakes
