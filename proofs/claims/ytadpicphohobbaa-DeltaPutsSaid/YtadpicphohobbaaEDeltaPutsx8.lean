-- Written by this session's own program (wip/tools/ext.py) for this claim; Lean checks it.
import Derived.Test.YtadpicphohobbaaEDeltaPutsx0
import Derived.Test.YtadpicphohobbaaEDeltaPutsx2
import Derived.Test.YtadpicphohobbaaEDeltaPutsx3
import Derived.Test.YtadpicphohobbaaEDeltaPutsx4
import Derived.Test.YtadpicphohobbaaEDeltaPutsx5
import Derived.Test.YtadpicphohobbaaEDeltaPutsx6
import Derived.Test.YtadpicphohobbaaEDeltaPutsx7
namespace Go.Proofs.Ytadpicphohobbaa.EDeltaPuts
open Go.RowKit Go.Proofs.YtadpicphohobbaaW.PrintWords Go.Proofs.YtadpicphohobbaaW.PrintLast Go.Proofs.YtadpicphohobbaaW.PrintMore
attribute [local go_sem] M.run_leq M.run_gtr M.run_geq max2_int min2_int max_two min_two max_three min_three max_four min_four   -- for this text's walks alone
set_option linter.unusedVariables false
set_option linter.unusedSimpArgs false

/-! ### pleachlaw11_DeltaPuts: function 4 -/
mutual
def pleachlaw11_DeltaPuts.j0 : Nat → ByteArray → List (S34) → Bool → Option (Bool)
  | 0, _, _, _ => none
  | k + 1, x0, x1, x22 => if x22 = true then ((pleachlaw11_awake.f).bind fun t160 => (some t160)) else (pleachlaw11_DeltaPuts.l0 k x0 x1 x1 (x1.length : Int) 0)
def pleachlaw11_DeltaPuts.l0 : Nat → ByteArray → List (S34) → List (S34) → Int → Int → Option (Bool)
  | 0, _, _, _, _, _ => none
  | k + 1, x0, x1, x24, x25, x26 => if x26 < x25 then (if 0 ≤ x26 then (if x26 < (x24.length : Int) then ((delta_Check.f ((rd_T34 x24 x26).f0) ((rd_T34 x24 x26).f1) ((rd_T34 x24 x26).f2) ((rd_T34 x24 x26).f3)).bind fun t163 => ((pleachref11_Is.f ((rd_T34 x24 x26).f0) ((rd_T34 x24 x26).f1) ((rd_T34 x24 x26).f2) ((rd_T34 x24 x26).f3)).bind fun t164 => (if ((t163 == 0) != t164) = true then (some false) else (pleachlaw11_DeltaPuts.l0 k x0 x1 x24 x25 (wrap64 (x26 + 1)))))) else (none)) else (none)) else ((delta_Put.f x1).bind fun bt165 => ((pleachref11_Put.f x1).bind fun bt167 => ((delta_Join.f x0 x1).bind fun bt169 => ((pleachref11_Join.f x0 x1).bind fun bt171 => (if bt165.1.toList = bt167.1.toList then (if ((bt165.2 == 0) == bt167.2) = true then (if bt167.2 = true then (if bt169.1.toList = bt171.1.toList then (if bt169.2 = bt171.2 then ((pleachlaw11_awake.f).bind fun t173 => (some t173)) else (some false)) else (some false)) else (if bt165.2 = 2 then (if bt169.1.toList = bt171.1.toList then (if bt169.2 = bt171.2 then ((pleachlaw11_awake.f).bind fun t174 => (some t174)) else (some false)) else (some false)) else (some false))) else (some false)) else (some false))))))
end
def pleachlaw11_DeltaPuts.f (k : Nat) (a0 : ByteArray) (l1 : List (S34)) : Option (Bool) := if (a0.size : Int) > 1000 then (pleachlaw11_DeltaPuts.j0 k a0 l1 true) else ((pleachlaw11_few.f l1).bind fun t159 => (pleachlaw11_DeltaPuts.j0 k a0 l1 (!t159)))
theorem pleachlaw11_DeltaPuts.mono_l : ∀ k, (∀ y0 y1 y2, LeO (pleachlaw11_DeltaPuts.j0 k y0 y1 y2) (pleachlaw11_DeltaPuts.j0 (k + 1) y0 y1 y2)) ∧ (∀ y0 y1 y2 y3 y4, LeO (pleachlaw11_DeltaPuts.l0 k y0 y1 y2 y3 y4) (pleachlaw11_DeltaPuts.l0 (k + 1) y0 y1 y2 y3 y4))
  | 0 => ⟨fun _ _ _ r h => by simp [pleachlaw11_DeltaPuts.j0] at h, fun _ _ _ _ _ r h => by simp [pleachlaw11_DeltaPuts.l0] at h⟩
  | k + 1 => by
    obtain ⟨ih0, ih1⟩ := pleachlaw11_DeltaPuts.mono_l k
    refine ⟨?_, ?_⟩
    · intro y0 y1 y2
      unfold pleachlaw11_DeltaPuts.j0
      repeat' first
      | (with_reducible exact ih0 _ _ _)
      | (with_reducible exact ih1 _ _ _ _ _)
      | (with_reducible exact LeO.refl _)
      | (with_reducible exact LeO.none _)
      | (with_reducible refine LeO.ite ?_ ?_)
      | (with_reducible refine LeO.bind ?_ (fun _ => ?_))
      | exact ih0 _ _ _
      | exact ih1 _ _ _ _ _
      | exact LeO.none _
      | refine LeO.ite ?_ ?_
      | refine LeO.bind ?_ (fun _ => ?_)
    · intro y0 y1 y2 y3 y4
      unfold pleachlaw11_DeltaPuts.l0
      repeat' first
      | (with_reducible exact ih0 _ _ _)
      | (with_reducible exact ih1 _ _ _ _ _)
      | (with_reducible exact LeO.refl _)
      | (with_reducible exact LeO.none _)
      | (with_reducible refine LeO.ite ?_ ?_)
      | (with_reducible refine LeO.bind ?_ (fun _ => ?_))
      | exact ih0 _ _ _
      | exact ih1 _ _ _ _ _
      | exact LeO.none _
      | refine LeO.ite ?_ ?_
      | refine LeO.bind ?_ (fun _ => ?_)
theorem pleachlaw11_DeltaPuts.mono : ∀ a0 a1 k, LeO (pleachlaw11_DeltaPuts.f k a0 a1) (pleachlaw11_DeltaPuts.f (k + 1) a0 a1) := by
  intro a0 a1 k
  obtain ⟨ih0, ih1⟩ := pleachlaw11_DeltaPuts.mono_l k
  unfold pleachlaw11_DeltaPuts.f
  repeat' first
      | (with_reducible exact ih0 _ _ _)
      | (with_reducible exact ih1 _ _ _ _ _)
      | (with_reducible exact LeO.refl _)
      | (with_reducible exact LeO.none _)
      | (with_reducible refine LeO.ite ?_ ?_)
      | (with_reducible refine LeO.bind ?_ (fun _ => ?_))
      | exact ih0 _ _ _
      | exact ih1 _ _ _ _ _
      | exact LeO.none _
      | refine LeO.ite ?_ ?_
      | refine LeO.bind ?_ (fun _ => ?_)
set_option maxHeartbeats 8000000 in
set_option maxRecDepth 100000 in
theorem pleachlaw11_DeltaPuts.calls (k : Nat) (a0 : ByteArray) (A1 : Option Addr) (c1 : Nat) (l1 : List (S34)) (r : Bool) (w : World) (hr1 : Kd.C k34 w A1 l1.length l1) (hc1 : l1.length ≤ c1) (h : pleachlaw11_DeltaPuts.f k a0 l1 = some r) :
    Calls Try.prog 4 #[.string a0, .slice A1 l1.length c1] w fun e w' => e = .returned (.bool r) ∧ Below w.heap.size w w' := by
  have hu34 := Try.underlying34
  have HR1 := Aside0.mk hr1
  have HC1 := Aside0.mk hc1
  clear hr1 hc1
  have HB := Aside0.mk (Below.refl w.heap.size w)
  have H : (if (a0.size : Int) > 1000 then (pleachlaw11_DeltaPuts.j0 k a0 l1 true) else ((pleachlaw11_few.f l1).bind fun t159 => (pleachlaw11_DeltaPuts.j0 k a0 l1 (!t159)))) = some r := h
  clear h
  have HC3 := Aside0.mk H
  clear H
  go_enter Try.func4, Try.ntmps4
  go_upto_region 1 with (fail)
  go_cut [22] (fun v22 wc => ∃ (kq : Nat) (x22_2 : Bool), v22 = .bool x22_2 ∧ Aside0 (pleachlaw11_DeltaPuts.j0 kq a0 l1 x22_2 = some r) ∧ Aside0 (kq ≤ k) ∧ Aside0 (Below w.heap.size w wc))
  case first =>
    have H := HC3.out
    clear HC3
    by_cases c4 : (a0.size : Int) > 1000
    · rw [if_pos c4] at H
      have c4b0 : decide (1000 < (a0.size : Int)) = true := decide_eq_true c4
      have c4b1 : decide (1000 < a0.size) = true := decide_eq_true (by omega)
      clear c4
      (first | rw [c4b0] | (simp only [i64_w, i32_w]; rw [c4b0]) | skip)
      have H' := Aside0.mk H
      clear H
      go_wp2
      go_meet
      case rel => exact ⟨_, (true), (by first | rfl | (simp; done) | (simp [*]; done) | (simp [M.isEmpty_bne]; done)), H', ⟨by first | omega | exact Nat.le_refl _⟩, ⟨M.up HB⟩⟩
    · rw [if_neg c4] at H
      have c4b0 : decide (1000 < (a0.size : Int)) = false := decide_eq_false c4
      have c4b1 : decide (1000 < a0.size) = false := decide_eq_false (by omega)
      clear c4
      (first | rw [c4b0] | (simp only [i64_w, i32_w]; rw [c4b0]) | skip)
      replace H := Option.bind_eq_some_iff.mp H
      obtain ⟨t159, A50, H⟩ := H
      replace H : (pleachlaw11_DeltaPuts.j0 k a0 l1 (!t159)) = some r := H
      have A5 := Aside0.mk A50
      clear A50
      have H' := Aside0.mk H
      clear H
      go_wp2_with (first | (go_at_call 13; (with_reducible refine (pleachlaw11_few.calls _ _ l1 t159 _ ?side1 ?side2 A5.out).mono ?_); (case side1 => exact M.cB HR1 HB); (case side2 => exact HC1.out); rintro e w6 ⟨rfl, hb⟩; have n0_ := M.upS HB hb; clear HB; have HB := n0_; clear n0_; (try clear hb); (try clear hb2); (try clear hk); (try clear hi)))
      go_meet
      case rel => exact ⟨_, (!t159), (by first | rfl | (simp; done) | (simp [*]; done) | (simp [M.isEmpty_bne]; done)), H', ⟨by first | omega | exact Nat.le_refl _⟩, ⟨M.up HB⟩⟩
  case rest =>
    clear HC3
    try clear c1
    try clear p2
    try clear c4
    try clear c4b0
    try clear c4b1
    obtain ⟨kq, x22_2, rfl, HA, HJ2, HB⟩ := hcut
    cases kq with
    | zero => exact absurd HA.out (by simp [pleachlaw11_DeltaPuts.j0])
    | succ kj2 =>
      have H := HA.out
      clear HA
      simp only [pleachlaw11_DeltaPuts.j0] at H
      by_cases c7 : x22_2 = true
      · subst c7
        have H1 : ((pleachlaw11_awake.f).bind fun t160 => (some t160)) = some r := by rw [if_pos rfl] at H; exact H
        clear H
        have H := H1
        clear H1
        replace H := Option.bind_eq_some_iff.mp H
        obtain ⟨t160, A80, H⟩ := H
        replace H : (some t160) = some r := H
        have A8 := Aside0.mk A80
        clear A80
        obtain rfl := Option.some.inj H
        go_wp2_with (first | ((with_reducible refine gate_callee (f := 7) rfl ?_); refine M.goes (some 23) Try.func7 #[] rfl ?_; (with_reducible refine (pleachlaw11_awake.calls  t160 _ A8.out).mono ?_); rintro e w9 ⟨rfl, hb⟩; refine ⟨_, rfl, ?_⟩; have n0_ := M.upS HB hb; clear HB; have HB := n0_; clear n0_; (try clear hb)))
        go_ret
        exact M.fin (M.up HB)
      · replace c7 := Bool.eq_false_iff.mpr c7
        subst c7
        have H1 : (pleachlaw11_DeltaPuts.l0 kj2 a0 l1 l1 (l1.length : Int) 0) = some r := by rw [if_neg (show ¬ (false = true) by decide)] at H; exact H
        clear H
        have H := H1
        clear H1
        have H' := Aside0.mk H
        clear H
        go_wp2
        go_loopg [26] kj2 (fun kq v26 w' => ∃ (x26_2 : Int), v26 = .int .i64 x26_2 ∧ Aside0 (pleachlaw11_DeltaPuts.l0 kq a0 l1 l1 (l1.length : Int) x26_2 = some r) ∧ Aside0 (kq ≤ kj2) ∧ Aside0 (Below w.heap.size w w'))
        case atStart => exact ⟨(0), (by first | rfl | (simp; done) | (simp [*]; done) | (simp [M.isEmpty_bne]; done)), H', ⟨Nat.le_refl _⟩, ⟨M.up HB⟩⟩
        case round =>
          clear H'
          try clear c1
          try clear p2
          try clear c4
          try clear c4b0
          try clear c4b1
          try clear c7
          try clear p2
          obtain ⟨x26_2, rfl, HA, HK2, HB⟩ := hrel
          cases gk with
          | zero => exact absurd HA.out (by simp [pleachlaw11_DeltaPuts.l0])
          | succ k2 =>
            have H := HA.out
            clear HA
            simp only [pleachlaw11_DeltaPuts.l0] at H
            by_cases c10 : x26_2 < (l1.length : Int)
            · rw [if_pos c10] at H
              have c10b0 : decide (x26_2 < (l1.length : Int)) = true := decide_eq_true c10
              clear c10
              by_cases c11 : 0 ≤ x26_2
              · rw [if_pos c11] at H
                have c11b0 : decide (0 ≤ x26_2) = true := decide_eq_true c11
                clear c11
                by_cases c12 : x26_2 < (l1.length : Int)
                · rw [if_pos c12] at H
                  have c12b0 : decide (x26_2 < (l1.length : Int)) = true := decide_eq_true c12
                  clear c12
                  replace H := Option.bind_eq_some_iff.mp H
                  obtain ⟨t163, A130, H⟩ := H
                  replace H : ((pleachref11_Is.f ((rd_T34 l1 x26_2).f0) ((rd_T34 l1 x26_2).f1) ((rd_T34 l1 x26_2).f2) ((rd_T34 l1 x26_2).f3)).bind fun t164 => (if ((t163 == 0) != t164) = true then (some false) else (pleachlaw11_DeltaPuts.l0 k2 a0 l1 l1 (l1.length : Int) (wrap64 (x26_2 + 1))))) = some r := H
                  have A13 := Aside0.mk A130
                  clear A130
                  replace H := Option.bind_eq_some_iff.mp H
                  obtain ⟨t164, A140, H⟩ := H
                  replace H : (if ((t163 == 0) != t164) = true then (some false) else (pleachlaw11_DeltaPuts.l0 k2 a0 l1 l1 (l1.length : Int) (wrap64 (x26_2 + 1)))) = some r := H
                  have A14 := Aside0.mk A140
                  clear A140
                  by_cases c15 : ((t163 == 0) != t164) = true
                  · rw [if_pos c15] at H
                    have c15b0 : ((t163 == 0) != t164) = true := c15
                    (try (have c15b1 : decide ((t163 == 0) = t164) = false := by simpa using c15))
                    (try (have c15b2 : ((t163 == 0) == t164) = false := by simpa using c15))
                    (try (have c15b3 : ¬ ((t163 == 0) = t164) := by simpa using c15))
                    clear c15
                    obtain rfl := Option.some.inj H
                    have p161 : 0 ≤ (x26_2 : Int) := of_decide_eq_true (by first | (with_reducible assumption) | assumption)
                    have q161 : x26_2 < (l1.length : Int) := of_decide_eq_true (by first | (with_reducible assumption) | assumption)
                    obtain ⟨ad161, e161, hx161_0, hx161_1, hx161_2, hx161_3⟩ := at_T34 HR1.out x26_2 p161 q161
                    cases e161
                    replace hx161_0 := (HB.out.cell (World.block_lt_of_cell? w _ hx161_0)).trans hx161_0
                    replace hx161_1 := (HB.out.cell (World.block_lt_of_cell? w _ hx161_1)).trans hx161_1
                    replace hx161_2 := (HB.out.cell (World.block_lt_of_cell? w _ hx161_2)).trans hx161_2
                    replace hx161_3 := (HB.out.cell (World.block_lt_of_cell? w _ hx161_3)).trans hx161_3
                    replace p161 := eq_true p161
                    replace q161 := eq_true q161
                    try go_wp2_with (first | ((with_reducible refine gate_dst (N := 6) rfl ?_); refine box_event ?hg (N := 6) ?hd (cs := #[.bool false, .int .i64 0, .int .i64 0, .string (⟨#[]⟩ : ByteArray)]) (t := 34) ?hr ?_; (case hd => rfl); (case hg => rfl); (case hr => first | (go_simp; done) | (go_simp; rfl)); intro zaa hg w16 hbox hb; have n0_ := M.upS HB hb; have n1_ := Aside0.mk (hbox); have n2_ := M.upG HB hg; have n3_ := M.upG HB hg; clear HB; have HB := n0_; have zab := n1_; have zac := n2_; have zad := n3_; clear n0_ n1_ n2_ n3_; clear hb hbox hg; have zae : w16.cell? ⟨zaa, 0, none⟩ = some (.bool false) := (blk_cell zab.out 0).trans rfl; have zaf : w16.cell? ⟨zaa, 1, none⟩ = some (.int .i64 0) := (blk_cell zab.out 1).trans rfl; have zag : w16.cell? ⟨zaa, 2, none⟩ = some (.int .i64 0) := (blk_cell zab.out 2).trans rfl; have zah : w16.cell? ⟨zaa, 3, none⟩ = some (.string (⟨#[]⟩ : ByteArray)) := (blk_cell zab.out 3).trans rfl; have zai := blk_frozen zab.out 0; have zaj := blk_frozen zab.out 1; have zak := blk_frozen zab.out 2; have zal := blk_frozen zab.out 3))
                    have n0_ : Aside0 (((((w16.setCell ⟨zaa, 0, none⟩ (.bool ((rd_T34 l1 x26_2).f0))).setCell ⟨zaa, 1, none⟩ (.int .i64 ((rd_T34 l1 x26_2).f1))).setCell ⟨zaa, 2, none⟩ (.int .i64 ((rd_T34 l1 x26_2).f2))).setCell ⟨zaa, 3, none⟩ (.string ((rd_T34 l1 x26_2).f3))).heap[zaa]? = some (.cells #[.bool ((rd_T34 l1 x26_2).f0), .int .i64 ((rd_T34 l1 x26_2).f1), .int .i64 ((rd_T34 l1 x26_2).f2), .string ((rd_T34 l1 x26_2).f3)] 34 (0, 0))) := ⟨by (with_reducible repeat (first | refine blk_drewN ?_ _ | refine blk_drew ?_ | refine blk_alloc ?_ _)); refine blk_put (cs := #[.bool ((rd_T34 l1 x26_2).f0), .int .i64 ((rd_T34 l1 x26_2).f1), .int .i64 ((rd_T34 l1 x26_2).f2), .string (⟨#[]⟩ : ByteArray)]) ?_ 3 _ rfl; (with_reducible repeat (first | refine blk_drewN ?_ _ | refine blk_drew ?_ | refine blk_alloc ?_ _)); refine blk_put (cs := #[.bool ((rd_T34 l1 x26_2).f0), .int .i64 ((rd_T34 l1 x26_2).f1), .int .i64 0, .string (⟨#[]⟩ : ByteArray)]) ?_ 2 _ rfl; (with_reducible repeat (first | refine blk_drewN ?_ _ | refine blk_drew ?_ | refine blk_alloc ?_ _)); refine blk_put (cs := #[.bool ((rd_T34 l1 x26_2).f0), .int .i64 0, .int .i64 0, .string (⟨#[]⟩ : ByteArray)]) ?_ 1 _ rfl; (with_reducible repeat (first | refine blk_drewN ?_ _ | refine blk_drew ?_ | refine blk_alloc ?_ _)); refine blk_put (cs := #[.bool false, .int .i64 0, .int .i64 0, .string (⟨#[]⟩ : ByteArray)]) ?_ 0 _ rfl; (with_reducible repeat (first | refine blk_drewN ?_ _ | refine blk_drew ?_ | refine blk_alloc ?_ _)); exact zab.out⟩
                    have n1_ : Aside0 (Below w.heap.size w ((((w16.setCell ⟨zaa, 0, none⟩ (.bool ((rd_T34 l1 x26_2).f0))).setCell ⟨zaa, 1, none⟩ (.int .i64 ((rd_T34 l1 x26_2).f1))).setCell ⟨zaa, 2, none⟩ (.int .i64 ((rd_T34 l1 x26_2).f2))).setCell ⟨zaa, 3, none⟩ (.string ((rd_T34 l1 x26_2).f3)))) := ⟨M.up HB⟩
                    (try clear zab)
                    (try clear HB)
                    generalize ((((w16.setCell ⟨zaa, 0, none⟩ (.bool ((rd_T34 l1 x26_2).f0))).setCell ⟨zaa, 1, none⟩ (.int .i64 ((rd_T34 l1 x26_2).f1))).setCell ⟨zaa, 2, none⟩ (.int .i64 ((rd_T34 l1 x26_2).f2))).setCell ⟨zaa, 3, none⟩ (.string ((rd_T34 l1 x26_2).f3))) = w18 at n0_ n1_ ⊢
                    have zab := n0_
                    have HB := n1_
                    clear n0_ n1_
                    have n0_ := Aside0.mk (blk_drew zab.out)
                    have n1_ := Aside0.mk (below_drew1 HB.out)
                    clear zab HB
                    have zab := n0_
                    have HB := n1_
                    clear n0_ n1_
                    refine start_ (n := 6) (S := fun w' => w'.cell? ⟨zaa, 0, none⟩ = some (.bool ((rd_T34 l1 x26_2).f0)) ∧ w'.cell? ⟨zaa, 1, none⟩ = some (.int .i64 ((rd_T34 l1 x26_2).f1)) ∧ w'.cell? ⟨zaa, 2, none⟩ = some (.int .i64 ((rd_T34 l1 x26_2).f2)) ∧ w'.cell? ⟨zaa, 3, none⟩ = some (.string ((rd_T34 l1 x26_2).f3))) (ds := []) #[false, false, false, false, false, false] (by kernel_rfl) rfl rfl ⟨(blk_cell zab.out 0).trans rfl, (blk_cell zab.out 1).trans rfl, (blk_cell zab.out 2).trans rfl, (blk_cell zab.out 3).trans rfl⟩ (fun hHeld => ?_)
                    generalize w18.drew = w19 at zab HB hHeld ⊢
                    refine take_ (i := 0) (N := some 30) (v := ?_) (a' := ?_) #[true, false, false, false, false, false] rfl rfl (by kernel_rfl) (fun _ _ _ h => h) (Or.inl ⟨by rfl, ?_⟩) hHeld ?_ ?_
                    rotate_left
                    · rintro w' ⟨s0, s1, s2, s3⟩
                      go_simp
                      with_reducible rfl
                    rotate_left
                    · simp only [Act.put, List.setIfInBounds_toArray, List.set_cons_zero, List.set_cons_succ, i64_w, i32_w]
                      rfl
                    refine take_ (i := 3) (N := some 33) (v := ?_) (a' := ?_) #[true, false, false, true, false, false] rfl rfl (by kernel_rfl) (fun _ _ _ h => h) (Or.inl ⟨by rfl, ?_⟩) hHeld ?_ ?_
                    rotate_left
                    · rintro w' ⟨s0, s1, s2, s3⟩
                      go_simp
                      with_reducible rfl
                    rotate_left
                    · simp only [Act.put, List.setIfInBounds_toArray, List.set_cons_zero, List.set_cons_succ, i64_w, i32_w]
                      rfl
                    refine one_ (i := 1) (N := some 31) #[true, true, false, true, false, false] rfl rfl (by kernel_rfl) (by decide) (fun K hK => ?_)
                    refine goes_ Try.func14 (by kernel_rfl) rfl #[.agg #[.bool ((rd_T34 l1 x26_2).f0), .int .i64 ((rd_T34 l1 x26_2).f1), .int .i64 ((rd_T34 l1 x26_2).f2), .string ((rd_T34 l1 x26_2).f3)]] (by rfl) rfl rfl (by (try simp only [List.map_toArray, List.map_cons, List.map_nil]); first | done | rfl | (simp only [List.length_drop, List.length_take]; rfl)) ?_
                    with_reducible refine (delta_Check.calls ((rd_T34 l1 x26_2).f0) ((rd_T34 l1 x26_2).f1) ((rd_T34 l1 x26_2).f2) ((rd_T34 l1 x26_2).f3) t163 _ A13.out).mono ?_
                    rintro e w20 ⟨rfl, hb⟩
                    refine ⟨_, rfl, ?_⟩
                    have n0_ := M.bkB zab hb
                    have n1_ := M.upS HB hb
                    clear zab HB
                    have zab := n0_
                    have HB := n1_
                    clear n0_ n1_
                    (try clear hb)
                    (try clear hb2)
                    (try clear hk)
                    (try clear hi)
                    refine hK.out _ _ ⟨(blk_cell zab.out 0).trans rfl, (blk_cell zab.out 1).trans rfl, (blk_cell zab.out 2).trans rfl, (blk_cell zab.out 3).trans rfl⟩ (fun hHeld => ?_)
                    clear hK K
                    refine norm_ (a' := ?_) ?_ ?_
                    rotate_left
                    · show Act.put _ (some 31) _ = _
                      simp only [Act.put, List.setIfInBounds_toArray, List.set_cons_zero, List.set_cons_succ, i64_w, i32_w]
                      rfl
                    refine pure_ (i := 2) (N := some 32) (v := ?_) (a' := ?_) #[true, true, true, true, false, false] rfl rfl (by kernel_rfl) (fun _ _ _ h => h) (Or.inl ⟨by rfl, ?_⟩) ?_ ?_
                    rotate_left
                    · intro w'
                      go_simp
                      with_reducible rfl
                    rotate_left
                    · simp only [Act.put, List.setIfInBounds_toArray, List.set_cons_zero, List.set_cons_succ, i64_w, i32_w]
                      rfl
                    refine one_ (i := 4) (N := some 34) #[true, true, true, true, true, false] rfl rfl (by kernel_rfl) (by decide) (fun K hK => ?_)
                    refine goes_ Try.func15 (by kernel_rfl) rfl #[.agg #[.bool ((rd_T34 l1 x26_2).f0), .int .i64 ((rd_T34 l1 x26_2).f1), .int .i64 ((rd_T34 l1 x26_2).f2), .string ((rd_T34 l1 x26_2).f3)]] (by rfl) rfl rfl (by (try simp only [List.map_toArray, List.map_cons, List.map_nil]); first | done | rfl | (simp only [List.length_drop, List.length_take]; rfl)) ?_
                    with_reducible refine (pleachref11_Is.calls ((rd_T34 l1 x26_2).f0) ((rd_T34 l1 x26_2).f1) ((rd_T34 l1 x26_2).f2) ((rd_T34 l1 x26_2).f3) t164 _ A14.out).mono ?_
                    rintro e w21 ⟨rfl, hb⟩
                    refine ⟨_, rfl, ?_⟩
                    have n0_ := M.bkB zab hb
                    have n1_ := M.upS HB hb
                    clear zab HB
                    have zab := n0_
                    have HB := n1_
                    clear n0_ n1_
                    (try clear hb)
                    (try clear hb2)
                    (try clear hk)
                    (try clear hi)
                    refine hK.out _ _ ⟨(blk_cell zab.out 0).trans rfl, (blk_cell zab.out 1).trans rfl, (blk_cell zab.out 2).trans rfl, (blk_cell zab.out 3).trans rfl⟩ (fun hHeld => ?_)
                    clear hK K
                    refine norm_ (a' := ?_) ?_ ?_
                    rotate_left
                    · show Act.put _ (some 34) _ = _
                      simp only [Act.put, List.setIfInBounds_toArray, List.set_cons_zero, List.set_cons_succ, i64_w, i32_w]
                      rfl
                    refine pure_ (i := 5) (N := some 35) (v := ?_) (a' := ?_) #[true, true, true, true, true, true] rfl rfl (by kernel_rfl) (fun _ _ _ h => h) (Or.inl ⟨by rfl, ?_⟩) ?_ ?_
                    rotate_left
                    · intro w'
                      go_simp
                      with_reducible rfl
                    rotate_left
                    · simp only [Act.put, List.setIfInBounds_toArray, List.set_cons_zero, List.set_cons_succ, i64_w, i32_w]
                      rfl
                    refine done_ (by kernel_rfl) ?_
                    try go_wp2
                    go_ret
                    exact M.fin (M.up HB)
                  · rw [if_neg c15] at H
                    have c15b0 : ((t163 == 0) != t164) = false := by simpa using c15
                    (try (have c15b1 : decide ((t163 == 0) = t164) = true := by simpa using c15))
                    (try (have c15b2 : ((t163 == 0) == t164) = true := by simpa using c15))
                    clear c15
                    have H' := Aside0.mk H
                    clear H
                    have p161 : 0 ≤ (x26_2 : Int) := of_decide_eq_true (by first | (with_reducible assumption) | assumption)
                    have q161 : x26_2 < (l1.length : Int) := of_decide_eq_true (by first | (with_reducible assumption) | assumption)
                    obtain ⟨ad161, e161, hx161_0, hx161_1, hx161_2, hx161_3⟩ := at_T34 HR1.out x26_2 p161 q161
                    cases e161
                    replace hx161_0 := (HB.out.cell (World.block_lt_of_cell? w _ hx161_0)).trans hx161_0
                    replace hx161_1 := (HB.out.cell (World.block_lt_of_cell? w _ hx161_1)).trans hx161_1
                    replace hx161_2 := (HB.out.cell (World.block_lt_of_cell? w _ hx161_2)).trans hx161_2
                    replace hx161_3 := (HB.out.cell (World.block_lt_of_cell? w _ hx161_3)).trans hx161_3
                    replace p161 := eq_true p161
                    replace q161 := eq_true q161
                    try go_wp2_with (first | ((with_reducible refine gate_dst (N := 6) rfl ?_); refine box_event ?hg (N := 6) ?hd (cs := #[.bool false, .int .i64 0, .int .i64 0, .string (⟨#[]⟩ : ByteArray)]) (t := 34) ?hr ?_; (case hd => rfl); (case hg => rfl); (case hr => first | (go_simp; done) | (go_simp; rfl)); intro zaa hg w22 hbox hb; have n0_ := M.upS HB hb; have n1_ := Aside0.mk (hbox); have n2_ := M.upG HB hg; have n3_ := M.upG HB hg; clear HB; have HB := n0_; have zab := n1_; have zac := n2_; have zad := n3_; clear n0_ n1_ n2_ n3_; clear hb hbox hg; have zam : w22.cell? ⟨zaa, 0, none⟩ = some (.bool false) := (blk_cell zab.out 0).trans rfl; have zan : w22.cell? ⟨zaa, 1, none⟩ = some (.int .i64 0) := (blk_cell zab.out 1).trans rfl; have zao : w22.cell? ⟨zaa, 2, none⟩ = some (.int .i64 0) := (blk_cell zab.out 2).trans rfl; have zap : w22.cell? ⟨zaa, 3, none⟩ = some (.string (⟨#[]⟩ : ByteArray)) := (blk_cell zab.out 3).trans rfl; have zaq := blk_frozen zab.out 0; have zar := blk_frozen zab.out 1; have zas := blk_frozen zab.out 2; have zat := blk_frozen zab.out 3))
                    have n0_ : Aside0 (((((w22.setCell ⟨zaa, 0, none⟩ (.bool ((rd_T34 l1 x26_2).f0))).setCell ⟨zaa, 1, none⟩ (.int .i64 ((rd_T34 l1 x26_2).f1))).setCell ⟨zaa, 2, none⟩ (.int .i64 ((rd_T34 l1 x26_2).f2))).setCell ⟨zaa, 3, none⟩ (.string ((rd_T34 l1 x26_2).f3))).heap[zaa]? = some (.cells #[.bool ((rd_T34 l1 x26_2).f0), .int .i64 ((rd_T34 l1 x26_2).f1), .int .i64 ((rd_T34 l1 x26_2).f2), .string ((rd_T34 l1 x26_2).f3)] 34 (0, 0))) := ⟨by (with_reducible repeat (first | refine blk_drewN ?_ _ | refine blk_drew ?_ | refine blk_alloc ?_ _)); refine blk_put (cs := #[.bool ((rd_T34 l1 x26_2).f0), .int .i64 ((rd_T34 l1 x26_2).f1), .int .i64 ((rd_T34 l1 x26_2).f2), .string (⟨#[]⟩ : ByteArray)]) ?_ 3 _ rfl; (with_reducible repeat (first | refine blk_drewN ?_ _ | refine blk_drew ?_ | refine blk_alloc ?_ _)); refine blk_put (cs := #[.bool ((rd_T34 l1 x26_2).f0), .int .i64 ((rd_T34 l1 x26_2).f1), .int .i64 0, .string (⟨#[]⟩ : ByteArray)]) ?_ 2 _ rfl; (with_reducible repeat (first | refine blk_drewN ?_ _ | refine blk_drew ?_ | refine blk_alloc ?_ _)); refine blk_put (cs := #[.bool ((rd_T34 l1 x26_2).f0), .int .i64 0, .int .i64 0, .string (⟨#[]⟩ : ByteArray)]) ?_ 1 _ rfl; (with_reducible repeat (first | refine blk_drewN ?_ _ | refine blk_drew ?_ | refine blk_alloc ?_ _)); refine blk_put (cs := #[.bool false, .int .i64 0, .int .i64 0, .string (⟨#[]⟩ : ByteArray)]) ?_ 0 _ rfl; (with_reducible repeat (first | refine blk_drewN ?_ _ | refine blk_drew ?_ | refine blk_alloc ?_ _)); exact zab.out⟩
                    have n1_ : Aside0 (Below w.heap.size w ((((w22.setCell ⟨zaa, 0, none⟩ (.bool ((rd_T34 l1 x26_2).f0))).setCell ⟨zaa, 1, none⟩ (.int .i64 ((rd_T34 l1 x26_2).f1))).setCell ⟨zaa, 2, none⟩ (.int .i64 ((rd_T34 l1 x26_2).f2))).setCell ⟨zaa, 3, none⟩ (.string ((rd_T34 l1 x26_2).f3)))) := ⟨M.up HB⟩
                    (try clear zab)
                    (try clear HB)
                    generalize ((((w22.setCell ⟨zaa, 0, none⟩ (.bool ((rd_T34 l1 x26_2).f0))).setCell ⟨zaa, 1, none⟩ (.int .i64 ((rd_T34 l1 x26_2).f1))).setCell ⟨zaa, 2, none⟩ (.int .i64 ((rd_T34 l1 x26_2).f2))).setCell ⟨zaa, 3, none⟩ (.string ((rd_T34 l1 x26_2).f3))) = w24 at n0_ n1_ ⊢
                    have zab := n0_
                    have HB := n1_
                    clear n0_ n1_
                    have n0_ := Aside0.mk (blk_drew zab.out)
                    have n1_ := Aside0.mk (below_drew1 HB.out)
                    clear zab HB
                    have zab := n0_
                    have HB := n1_
                    clear n0_ n1_
                    refine start_ (n := 6) (S := fun w' => w'.cell? ⟨zaa, 0, none⟩ = some (.bool ((rd_T34 l1 x26_2).f0)) ∧ w'.cell? ⟨zaa, 1, none⟩ = some (.int .i64 ((rd_T34 l1 x26_2).f1)) ∧ w'.cell? ⟨zaa, 2, none⟩ = some (.int .i64 ((rd_T34 l1 x26_2).f2)) ∧ w'.cell? ⟨zaa, 3, none⟩ = some (.string ((rd_T34 l1 x26_2).f3))) (ds := []) #[false, false, false, false, false, false] (by kernel_rfl) rfl rfl ⟨(blk_cell zab.out 0).trans rfl, (blk_cell zab.out 1).trans rfl, (blk_cell zab.out 2).trans rfl, (blk_cell zab.out 3).trans rfl⟩ (fun hHeld => ?_)
                    generalize w24.drew = w25 at zab HB hHeld ⊢
                    refine take_ (i := 0) (N := some 30) (v := ?_) (a' := ?_) #[true, false, false, false, false, false] rfl rfl (by kernel_rfl) (fun _ _ _ h => h) (Or.inl ⟨by rfl, ?_⟩) hHeld ?_ ?_
                    rotate_left
                    · rintro w' ⟨s0, s1, s2, s3⟩
                      go_simp
                      with_reducible rfl
                    rotate_left
                    · simp only [Act.put, List.setIfInBounds_toArray, List.set_cons_zero, List.set_cons_succ, i64_w, i32_w]
                      rfl
                    refine take_ (i := 3) (N := some 33) (v := ?_) (a' := ?_) #[true, false, false, true, false, false] rfl rfl (by kernel_rfl) (fun _ _ _ h => h) (Or.inl ⟨by rfl, ?_⟩) hHeld ?_ ?_
                    rotate_left
                    · rintro w' ⟨s0, s1, s2, s3⟩
                      go_simp
                      with_reducible rfl
                    rotate_left
                    · simp only [Act.put, List.setIfInBounds_toArray, List.set_cons_zero, List.set_cons_succ, i64_w, i32_w]
                      rfl
                    refine one_ (i := 1) (N := some 31) #[true, true, false, true, false, false] rfl rfl (by kernel_rfl) (by decide) (fun K hK => ?_)
                    refine goes_ Try.func14 (by kernel_rfl) rfl #[.agg #[.bool ((rd_T34 l1 x26_2).f0), .int .i64 ((rd_T34 l1 x26_2).f1), .int .i64 ((rd_T34 l1 x26_2).f2), .string ((rd_T34 l1 x26_2).f3)]] (by rfl) rfl rfl (by (try simp only [List.map_toArray, List.map_cons, List.map_nil]); first | done | rfl | (simp only [List.length_drop, List.length_take]; rfl)) ?_
                    with_reducible refine (delta_Check.calls ((rd_T34 l1 x26_2).f0) ((rd_T34 l1 x26_2).f1) ((rd_T34 l1 x26_2).f2) ((rd_T34 l1 x26_2).f3) t163 _ A13.out).mono ?_
                    rintro e w26 ⟨rfl, hb⟩
                    refine ⟨_, rfl, ?_⟩
                    have n0_ := M.bkB zab hb
                    have n1_ := M.upS HB hb
                    clear zab HB
                    have zab := n0_
                    have HB := n1_
                    clear n0_ n1_
                    (try clear hb)
                    (try clear hb2)
                    (try clear hk)
                    (try clear hi)
                    refine hK.out _ _ ⟨(blk_cell zab.out 0).trans rfl, (blk_cell zab.out 1).trans rfl, (blk_cell zab.out 2).trans rfl, (blk_cell zab.out 3).trans rfl⟩ (fun hHeld => ?_)
                    clear hK K
                    refine norm_ (a' := ?_) ?_ ?_
                    rotate_left
                    · show Act.put _ (some 31) _ = _
                      simp only [Act.put, List.setIfInBounds_toArray, List.set_cons_zero, List.set_cons_succ, i64_w, i32_w]
                      rfl
                    refine pure_ (i := 2) (N := some 32) (v := ?_) (a' := ?_) #[true, true, true, true, false, false] rfl rfl (by kernel_rfl) (fun _ _ _ h => h) (Or.inl ⟨by rfl, ?_⟩) ?_ ?_
                    rotate_left
                    · intro w'
                      go_simp
                      with_reducible rfl
                    rotate_left
                    · simp only [Act.put, List.setIfInBounds_toArray, List.set_cons_zero, List.set_cons_succ, i64_w, i32_w]
                      rfl
                    refine one_ (i := 4) (N := some 34) #[true, true, true, true, true, false] rfl rfl (by kernel_rfl) (by decide) (fun K hK => ?_)
                    refine goes_ Try.func15 (by kernel_rfl) rfl #[.agg #[.bool ((rd_T34 l1 x26_2).f0), .int .i64 ((rd_T34 l1 x26_2).f1), .int .i64 ((rd_T34 l1 x26_2).f2), .string ((rd_T34 l1 x26_2).f3)]] (by rfl) rfl rfl (by (try simp only [List.map_toArray, List.map_cons, List.map_nil]); first | done | rfl | (simp only [List.length_drop, List.length_take]; rfl)) ?_
                    with_reducible refine (pleachref11_Is.calls ((rd_T34 l1 x26_2).f0) ((rd_T34 l1 x26_2).f1) ((rd_T34 l1 x26_2).f2) ((rd_T34 l1 x26_2).f3) t164 _ A14.out).mono ?_
                    rintro e w27 ⟨rfl, hb⟩
                    refine ⟨_, rfl, ?_⟩
                    have n0_ := M.bkB zab hb
                    have n1_ := M.upS HB hb
                    clear zab HB
                    have zab := n0_
                    have HB := n1_
                    clear n0_ n1_
                    (try clear hb)
                    (try clear hb2)
                    (try clear hk)
                    (try clear hi)
                    refine hK.out _ _ ⟨(blk_cell zab.out 0).trans rfl, (blk_cell zab.out 1).trans rfl, (blk_cell zab.out 2).trans rfl, (blk_cell zab.out 3).trans rfl⟩ (fun hHeld => ?_)
                    clear hK K
                    refine norm_ (a' := ?_) ?_ ?_
                    rotate_left
                    · show Act.put _ (some 34) _ = _
                      simp only [Act.put, List.setIfInBounds_toArray, List.set_cons_zero, List.set_cons_succ, i64_w, i32_w]
                      rfl
                    refine pure_ (i := 5) (N := some 35) (v := ?_) (a' := ?_) #[true, true, true, true, true, true] rfl rfl (by kernel_rfl) (fun _ _ _ h => h) (Or.inl ⟨by rfl, ?_⟩) ?_ ?_
                    rotate_left
                    · intro w'
                      go_simp
                      with_reducible rfl
                    rotate_left
                    · simp only [Act.put, List.setIfInBounds_toArray, List.set_cons_zero, List.set_cons_succ, i64_w, i32_w]
                      rfl
                    refine done_ (by kernel_rfl) ?_
                    try go_wp2
                    go_roundg k2
                    case measure => have := HJ2.out; have := HK2.out; omega
                    case rel => exact ⟨(wrap64 (x26_2 + 1)), (by first | rfl | (simp; done) | (simp [*]; done) | (simp [M.isEmpty_bne]; done)), H', ⟨by have := HJ2.out; have := HK2.out; omega⟩, ⟨M.up HB⟩⟩
                · rw [if_neg c12] at H
                  exact absurd H (by simp)
              · rw [if_neg c11] at H
                exact absurd H (by simp)
            · rw [if_neg c10] at H
              have c10b0 : decide (x26_2 < (l1.length : Int)) = false := decide_eq_false c10
              clear c10
              replace H := Option.bind_eq_some_iff.mp H
              obtain ⟨⟨t165, t166⟩, A280, H⟩ := H
              replace H : ((pleachref11_Put.f l1).bind fun bt167 => ((delta_Join.f a0 l1).bind fun bt169 => ((pleachref11_Join.f a0 l1).bind fun bt171 => (if t165.toList = bt167.1.toList then (if ((t166 == 0) == bt167.2) = true then (if bt167.2 = true then (if bt169.1.toList = bt171.1.toList then (if bt169.2 = bt171.2 then ((pleachlaw11_awake.f).bind fun t173 => (some t173)) else (some false)) else (some false)) else (if t166 = 2 then (if bt169.1.toList = bt171.1.toList then (if bt169.2 = bt171.2 then ((pleachlaw11_awake.f).bind fun t174 => (some t174)) else (some false)) else (some false)) else (some false))) else (some false)) else (some false))))) = some r := H
              have A28 := Aside0.mk A280
              clear A280
              replace H := Option.bind_eq_some_iff.mp H
              obtain ⟨⟨t167, t168⟩, A290, H⟩ := H
              replace H : ((delta_Join.f a0 l1).bind fun bt169 => ((pleachref11_Join.f a0 l1).bind fun bt171 => (if t165.toList = t167.toList then (if ((t166 == 0) == t168) = true then (if t168 = true then (if bt169.1.toList = bt171.1.toList then (if bt169.2 = bt171.2 then ((pleachlaw11_awake.f).bind fun t173 => (some t173)) else (some false)) else (some false)) else (if t166 = 2 then (if bt169.1.toList = bt171.1.toList then (if bt169.2 = bt171.2 then ((pleachlaw11_awake.f).bind fun t174 => (some t174)) else (some false)) else (some false)) else (some false))) else (some false)) else (some false)))) = some r := H
              have A29 := Aside0.mk A290
              clear A290
              replace H := Option.bind_eq_some_iff.mp H
              obtain ⟨⟨t169, t170⟩, A300, H⟩ := H
              replace H : ((pleachref11_Join.f a0 l1).bind fun bt171 => (if t165.toList = t167.toList then (if ((t166 == 0) == t168) = true then (if t168 = true then (if t169.toList = bt171.1.toList then (if t170 = bt171.2 then ((pleachlaw11_awake.f).bind fun t173 => (some t173)) else (some false)) else (some false)) else (if t166 = 2 then (if t169.toList = bt171.1.toList then (if t170 = bt171.2 then ((pleachlaw11_awake.f).bind fun t174 => (some t174)) else (some false)) else (some false)) else (some false))) else (some false)) else (some false))) = some r := H
              have A30 := Aside0.mk A300
              clear A300
              replace H := Option.bind_eq_some_iff.mp H
              obtain ⟨⟨t171, t172⟩, A310, H⟩ := H
              replace H : (if t165.toList = t167.toList then (if ((t166 == 0) == t168) = true then (if t168 = true then (if t169.toList = t171.toList then (if t170 = t172 then ((pleachlaw11_awake.f).bind fun t173 => (some t173)) else (some false)) else (some false)) else (if t166 = 2 then (if t169.toList = t171.toList then (if t170 = t172 then ((pleachlaw11_awake.f).bind fun t174 => (some t174)) else (some false)) else (some false)) else (some false))) else (some false)) else (some false)) = some r := H
              have A31 := Aside0.mk A310
              clear A310
              by_cases c32 : t165.toList = t167.toList
              · rw [if_pos c32] at H
                have c32b0 : (t165.toList == t167.toList) = true := beq_iff_eq.mpr c32
                have c32b1 : (t165.toList != t167.toList) = false := bne_eq_false_iff_eq.mpr c32
                clear c32
                by_cases c33 : ((t166 == 0) == t168) = true
                · rw [if_pos c33] at H
                  have c33b0 : ((t166 == 0) == t168) = true := c33
                  (try (have c33b1 : decide ((t166 == 0) = t168) = true := by simpa using c33))
                  (try (have c33b2 : ((t166 == 0) == t168) = true := by simpa using c33))
                  clear c33
                  by_cases c34 : t168 = true
                  · subst c34
                    have H1 : (if t169.toList = t171.toList then (if t170 = t172 then ((pleachlaw11_awake.f).bind fun t173 => (some t173)) else (some false)) else (some false)) = some r := by rw [if_pos rfl] at H; exact H
                    clear H
                    have H := H1
                    clear H1
                    by_cases c35 : t169.toList = t171.toList
                    · rw [if_pos c35] at H
                      have c35b0 : (t169.toList == t171.toList) = true := beq_iff_eq.mpr c35
                      have c35b1 : (t169.toList != t171.toList) = false := bne_eq_false_iff_eq.mpr c35
                      clear c35
                      by_cases c36 : t170 = t172
                      · rw [if_pos c36] at H
                        have c36b0 : (t170 == t172) = true := beq_iff_eq.mpr c36
                        have c36b1 : (t170 != t172) = false := bne_eq_false_iff_eq.mpr c36
                        clear c36
                        replace H := Option.bind_eq_some_iff.mp H
                        obtain ⟨t173, A370, H⟩ := H
                        replace H : (some t173) = some r := H
                        have A37 := Aside0.mk A370
                        clear A370
                        obtain rfl := Option.some.inj H
                        go_wp2_with (first | ((with_reducible refine gate_callee (f := 16) rfl ?_); refine M.goes (some 39) Try.func16 #[.slice A1 l1.length c1] rfl ?_; (with_reducible refine (delta_Put.calls _ _ l1 t165 t166 _ ?side1 ?side2 A28.out).mono ?_); (case side1 => exact M.cB HR1 HB); (case side2 => exact HC1.out); rintro e w38 ⟨rfl, hb⟩; refine ⟨_, rfl, ?_⟩; have n0_ := M.upS HB hb; clear HB; have HB := n0_; clear n0_; (try clear hb)) | ((with_reducible refine gate_callee (f := 9) rfl ?_); refine M.goes (some 44) Try.func9 #[.slice A1 l1.length c1] rfl ?_; (with_reducible refine (pleachref11_Put.calls _ _ l1 t167 true _ ?side1 ?side2 A29.out).mono ?_); (case side1 => exact M.cB HR1 HB); (case side2 => exact HC1.out); rintro e w39 ⟨rfl, hb⟩; refine ⟨_, rfl, ?_⟩; have n0_ := M.upS HB hb; clear HB; have HB := n0_; clear n0_; (try clear hb)) | ((with_reducible refine gate_callee (f := 17) rfl ?_); refine M.goes (some 50) Try.func17 #[.string a0, .slice A1 l1.length c1] rfl ?_; (with_reducible refine (delta_Join.calls a0 _ _ l1 t169 t170 _ ?side1 ?side2 A30.out).mono ?_); (case side1 => exact M.cB HR1 HB); (case side2 => exact HC1.out); rintro e w40 ⟨rfl, hb⟩; refine ⟨_, rfl, ?_⟩; have n0_ := M.upS HB hb; clear HB; have HB := n0_; clear n0_; (try clear hb)) | ((with_reducible refine gate_callee (f := 18) rfl ?_); refine M.goes (some 56) Try.func18 #[.string a0, .slice A1 l1.length c1] rfl ?_; (with_reducible refine (pleachref11_Join.calls a0 _ _ l1 t171 t172 _ ?side1 ?side2 A31.out).mono ?_); (case side1 => exact M.cB HR1 HB); (case side2 => exact HC1.out); rintro e w41 ⟨rfl, hb⟩; refine ⟨_, rfl, ?_⟩; have n0_ := M.upS HB hb; clear HB; have HB := n0_; clear n0_; (try clear hb)) | (go_at_call 7; (with_reducible refine (pleachlaw11_awake.calls  t173 _ A37.out).mono ?_); rintro e w42 ⟨rfl, hb⟩; have n0_ := M.upS HB hb; clear HB; have HB := n0_; clear n0_; (try clear hb); (try clear hb2); (try clear hk); (try clear hi)))
                        go_ret
                        exact M.fin (M.up HB)
                      · rw [if_neg c36] at H
                        have c36b0 : (t170 == t172) = false := beq_eq_false_iff_ne.mpr c36
                        have c36b1 : (t170 != t172) = true := bne_iff_ne.mpr c36
                        obtain rfl := Option.some.inj H
                        go_wp2_with (first | ((with_reducible refine gate_callee (f := 16) rfl ?_); refine M.goes (some 39) Try.func16 #[.slice A1 l1.length c1] rfl ?_; (with_reducible refine (delta_Put.calls _ _ l1 t165 t166 _ ?side1 ?side2 A28.out).mono ?_); (case side1 => exact M.cB HR1 HB); (case side2 => exact HC1.out); rintro e w43 ⟨rfl, hb⟩; refine ⟨_, rfl, ?_⟩; have n0_ := M.upS HB hb; clear HB; have HB := n0_; clear n0_; (try clear hb)) | ((with_reducible refine gate_callee (f := 9) rfl ?_); refine M.goes (some 44) Try.func9 #[.slice A1 l1.length c1] rfl ?_; (with_reducible refine (pleachref11_Put.calls _ _ l1 t167 true _ ?side1 ?side2 A29.out).mono ?_); (case side1 => exact M.cB HR1 HB); (case side2 => exact HC1.out); rintro e w44 ⟨rfl, hb⟩; refine ⟨_, rfl, ?_⟩; have n0_ := M.upS HB hb; clear HB; have HB := n0_; clear n0_; (try clear hb)) | ((with_reducible refine gate_callee (f := 17) rfl ?_); refine M.goes (some 50) Try.func17 #[.string a0, .slice A1 l1.length c1] rfl ?_; (with_reducible refine (delta_Join.calls a0 _ _ l1 t169 t170 _ ?side1 ?side2 A30.out).mono ?_); (case side1 => exact M.cB HR1 HB); (case side2 => exact HC1.out); rintro e w45 ⟨rfl, hb⟩; refine ⟨_, rfl, ?_⟩; have n0_ := M.upS HB hb; clear HB; have HB := n0_; clear n0_; (try clear hb)) | ((with_reducible refine gate_callee (f := 18) rfl ?_); refine M.goes (some 56) Try.func18 #[.string a0, .slice A1 l1.length c1] rfl ?_; (with_reducible refine (pleachref11_Join.calls a0 _ _ l1 t171 t172 _ ?side1 ?side2 A31.out).mono ?_); (case side1 => exact M.cB HR1 HB); (case side2 => exact HC1.out); rintro e w46 ⟨rfl, hb⟩; refine ⟨_, rfl, ?_⟩; have n0_ := M.upS HB hb; clear HB; have HB := n0_; clear n0_; (try clear hb)))
                        go_ret
                        exact M.fin (M.up HB)
                    · rw [if_neg c35] at H
                      have c35b0 : (t169.toList == t171.toList) = false := beq_eq_false_iff_ne.mpr c35
                      have c35b1 : (t169.toList != t171.toList) = true := bne_iff_ne.mpr c35
                      obtain rfl := Option.some.inj H
                      go_wp2_with (first | ((with_reducible refine gate_callee (f := 16) rfl ?_); refine M.goes (some 39) Try.func16 #[.slice A1 l1.length c1] rfl ?_; (with_reducible refine (delta_Put.calls _ _ l1 t165 t166 _ ?side1 ?side2 A28.out).mono ?_); (case side1 => exact M.cB HR1 HB); (case side2 => exact HC1.out); rintro e w47 ⟨rfl, hb⟩; refine ⟨_, rfl, ?_⟩; have n0_ := M.upS HB hb; clear HB; have HB := n0_; clear n0_; (try clear hb)) | ((with_reducible refine gate_callee (f := 9) rfl ?_); refine M.goes (some 44) Try.func9 #[.slice A1 l1.length c1] rfl ?_; (with_reducible refine (pleachref11_Put.calls _ _ l1 t167 true _ ?side1 ?side2 A29.out).mono ?_); (case side1 => exact M.cB HR1 HB); (case side2 => exact HC1.out); rintro e w48 ⟨rfl, hb⟩; refine ⟨_, rfl, ?_⟩; have n0_ := M.upS HB hb; clear HB; have HB := n0_; clear n0_; (try clear hb)) | ((with_reducible refine gate_callee (f := 17) rfl ?_); refine M.goes (some 50) Try.func17 #[.string a0, .slice A1 l1.length c1] rfl ?_; (with_reducible refine (delta_Join.calls a0 _ _ l1 t169 t170 _ ?side1 ?side2 A30.out).mono ?_); (case side1 => exact M.cB HR1 HB); (case side2 => exact HC1.out); rintro e w49 ⟨rfl, hb⟩; refine ⟨_, rfl, ?_⟩; have n0_ := M.upS HB hb; clear HB; have HB := n0_; clear n0_; (try clear hb)) | ((with_reducible refine gate_callee (f := 18) rfl ?_); refine M.goes (some 56) Try.func18 #[.string a0, .slice A1 l1.length c1] rfl ?_; (with_reducible refine (pleachref11_Join.calls a0 _ _ l1 t171 t172 _ ?side1 ?side2 A31.out).mono ?_); (case side1 => exact M.cB HR1 HB); (case side2 => exact HC1.out); rintro e w50 ⟨rfl, hb⟩; refine ⟨_, rfl, ?_⟩; have n0_ := M.upS HB hb; clear HB; have HB := n0_; clear n0_; (try clear hb)))
                      go_ret
                      exact M.fin (M.up HB)
                  · replace c34 := Bool.eq_false_iff.mpr c34
                    subst c34
                    have H1 : (if t166 = 2 then (if t169.toList = t171.toList then (if t170 = t172 then ((pleachlaw11_awake.f).bind fun t174 => (some t174)) else (some false)) else (some false)) else (some false)) = some r := by rw [if_neg (show ¬ (false = true) by decide)] at H; exact H
                    clear H
                    have H := H1
                    clear H1
                    by_cases c51 : t166 = 2
                    · rw [if_pos c51] at H
                      have c51b0 : (t166 == 2) = true := beq_iff_eq.mpr c51
                      have c51b1 : (t166 != 2) = false := bne_eq_false_iff_eq.mpr c51
                      clear c51
                      by_cases c52 : t169.toList = t171.toList
                      · rw [if_pos c52] at H
                        have c52b0 : (t169.toList == t171.toList) = true := beq_iff_eq.mpr c52
                        have c52b1 : (t169.toList != t171.toList) = false := bne_eq_false_iff_eq.mpr c52
                        clear c52
                        by_cases c53 : t170 = t172
                        · rw [if_pos c53] at H
                          have c53b0 : (t170 == t172) = true := beq_iff_eq.mpr c53
                          have c53b1 : (t170 != t172) = false := bne_eq_false_iff_eq.mpr c53
                          clear c53
                          replace H := Option.bind_eq_some_iff.mp H
                          obtain ⟨t174, A540, H⟩ := H
                          replace H : (some t174) = some r := H
                          have A54 := Aside0.mk A540
                          clear A540
                          obtain rfl := Option.some.inj H
                          go_wp2_with (first | ((with_reducible refine gate_callee (f := 16) rfl ?_); refine M.goes (some 39) Try.func16 #[.slice A1 l1.length c1] rfl ?_; (with_reducible refine (delta_Put.calls _ _ l1 t165 t166 _ ?side1 ?side2 A28.out).mono ?_); (case side1 => exact M.cB HR1 HB); (case side2 => exact HC1.out); rintro e w55 ⟨rfl, hb⟩; refine ⟨_, rfl, ?_⟩; have n0_ := M.upS HB hb; clear HB; have HB := n0_; clear n0_; (try clear hb)) | ((with_reducible refine gate_callee (f := 9) rfl ?_); refine M.goes (some 44) Try.func9 #[.slice A1 l1.length c1] rfl ?_; (with_reducible refine (pleachref11_Put.calls _ _ l1 t167 false _ ?side1 ?side2 A29.out).mono ?_); (case side1 => exact M.cB HR1 HB); (case side2 => exact HC1.out); rintro e w56 ⟨rfl, hb⟩; refine ⟨_, rfl, ?_⟩; have n0_ := M.upS HB hb; clear HB; have HB := n0_; clear n0_; (try clear hb)) | ((with_reducible refine gate_callee (f := 17) rfl ?_); refine M.goes (some 50) Try.func17 #[.string a0, .slice A1 l1.length c1] rfl ?_; (with_reducible refine (delta_Join.calls a0 _ _ l1 t169 t170 _ ?side1 ?side2 A30.out).mono ?_); (case side1 => exact M.cB HR1 HB); (case side2 => exact HC1.out); rintro e w57 ⟨rfl, hb⟩; refine ⟨_, rfl, ?_⟩; have n0_ := M.upS HB hb; clear HB; have HB := n0_; clear n0_; (try clear hb)) | ((with_reducible refine gate_callee (f := 18) rfl ?_); refine M.goes (some 56) Try.func18 #[.string a0, .slice A1 l1.length c1] rfl ?_; (with_reducible refine (pleachref11_Join.calls a0 _ _ l1 t171 t172 _ ?side1 ?side2 A31.out).mono ?_); (case side1 => exact M.cB HR1 HB); (case side2 => exact HC1.out); rintro e w58 ⟨rfl, hb⟩; refine ⟨_, rfl, ?_⟩; have n0_ := M.upS HB hb; clear HB; have HB := n0_; clear n0_; (try clear hb)) | (go_at_call 7; (with_reducible refine (pleachlaw11_awake.calls  t174 _ A54.out).mono ?_); rintro e w59 ⟨rfl, hb⟩; have n0_ := M.upS HB hb; clear HB; have HB := n0_; clear n0_; (try clear hb); (try clear hb2); (try clear hk); (try clear hi)))
                          go_ret
                          exact M.fin (M.up HB)
                        · rw [if_neg c53] at H
                          have c53b0 : (t170 == t172) = false := beq_eq_false_iff_ne.mpr c53
                          have c53b1 : (t170 != t172) = true := bne_iff_ne.mpr c53
                          obtain rfl := Option.some.inj H
                          go_wp2_with (first | ((with_reducible refine gate_callee (f := 16) rfl ?_); refine M.goes (some 39) Try.func16 #[.slice A1 l1.length c1] rfl ?_; (with_reducible refine (delta_Put.calls _ _ l1 t165 t166 _ ?side1 ?side2 A28.out).mono ?_); (case side1 => exact M.cB HR1 HB); (case side2 => exact HC1.out); rintro e w60 ⟨rfl, hb⟩; refine ⟨_, rfl, ?_⟩; have n0_ := M.upS HB hb; clear HB; have HB := n0_; clear n0_; (try clear hb)) | ((with_reducible refine gate_callee (f := 9) rfl ?_); refine M.goes (some 44) Try.func9 #[.slice A1 l1.length c1] rfl ?_; (with_reducible refine (pleachref11_Put.calls _ _ l1 t167 false _ ?side1 ?side2 A29.out).mono ?_); (case side1 => exact M.cB HR1 HB); (case side2 => exact HC1.out); rintro e w61 ⟨rfl, hb⟩; refine ⟨_, rfl, ?_⟩; have n0_ := M.upS HB hb; clear HB; have HB := n0_; clear n0_; (try clear hb)) | ((with_reducible refine gate_callee (f := 17) rfl ?_); refine M.goes (some 50) Try.func17 #[.string a0, .slice A1 l1.length c1] rfl ?_; (with_reducible refine (delta_Join.calls a0 _ _ l1 t169 t170 _ ?side1 ?side2 A30.out).mono ?_); (case side1 => exact M.cB HR1 HB); (case side2 => exact HC1.out); rintro e w62 ⟨rfl, hb⟩; refine ⟨_, rfl, ?_⟩; have n0_ := M.upS HB hb; clear HB; have HB := n0_; clear n0_; (try clear hb)) | ((with_reducible refine gate_callee (f := 18) rfl ?_); refine M.goes (some 56) Try.func18 #[.string a0, .slice A1 l1.length c1] rfl ?_; (with_reducible refine (pleachref11_Join.calls a0 _ _ l1 t171 t172 _ ?side1 ?side2 A31.out).mono ?_); (case side1 => exact M.cB HR1 HB); (case side2 => exact HC1.out); rintro e w63 ⟨rfl, hb⟩; refine ⟨_, rfl, ?_⟩; have n0_ := M.upS HB hb; clear HB; have HB := n0_; clear n0_; (try clear hb)))
                          go_ret
                          exact M.fin (M.up HB)
                      · rw [if_neg c52] at H
                        have c52b0 : (t169.toList == t171.toList) = false := beq_eq_false_iff_ne.mpr c52
                        have c52b1 : (t169.toList != t171.toList) = true := bne_iff_ne.mpr c52
                        obtain rfl := Option.some.inj H
                        go_wp2_with (first | ((with_reducible refine gate_callee (f := 16) rfl ?_); refine M.goes (some 39) Try.func16 #[.slice A1 l1.length c1] rfl ?_; (with_reducible refine (delta_Put.calls _ _ l1 t165 t166 _ ?side1 ?side2 A28.out).mono ?_); (case side1 => exact M.cB HR1 HB); (case side2 => exact HC1.out); rintro e w64 ⟨rfl, hb⟩; refine ⟨_, rfl, ?_⟩; have n0_ := M.upS HB hb; clear HB; have HB := n0_; clear n0_; (try clear hb)) | ((with_reducible refine gate_callee (f := 9) rfl ?_); refine M.goes (some 44) Try.func9 #[.slice A1 l1.length c1] rfl ?_; (with_reducible refine (pleachref11_Put.calls _ _ l1 t167 false _ ?side1 ?side2 A29.out).mono ?_); (case side1 => exact M.cB HR1 HB); (case side2 => exact HC1.out); rintro e w65 ⟨rfl, hb⟩; refine ⟨_, rfl, ?_⟩; have n0_ := M.upS HB hb; clear HB; have HB := n0_; clear n0_; (try clear hb)) | ((with_reducible refine gate_callee (f := 17) rfl ?_); refine M.goes (some 50) Try.func17 #[.string a0, .slice A1 l1.length c1] rfl ?_; (with_reducible refine (delta_Join.calls a0 _ _ l1 t169 t170 _ ?side1 ?side2 A30.out).mono ?_); (case side1 => exact M.cB HR1 HB); (case side2 => exact HC1.out); rintro e w66 ⟨rfl, hb⟩; refine ⟨_, rfl, ?_⟩; have n0_ := M.upS HB hb; clear HB; have HB := n0_; clear n0_; (try clear hb)) | ((with_reducible refine gate_callee (f := 18) rfl ?_); refine M.goes (some 56) Try.func18 #[.string a0, .slice A1 l1.length c1] rfl ?_; (with_reducible refine (pleachref11_Join.calls a0 _ _ l1 t171 t172 _ ?side1 ?side2 A31.out).mono ?_); (case side1 => exact M.cB HR1 HB); (case side2 => exact HC1.out); rintro e w67 ⟨rfl, hb⟩; refine ⟨_, rfl, ?_⟩; have n0_ := M.upS HB hb; clear HB; have HB := n0_; clear n0_; (try clear hb)))
                        go_ret
                        exact M.fin (M.up HB)
                    · rw [if_neg c51] at H
                      have c51b0 : (t166 == 2) = false := beq_eq_false_iff_ne.mpr c51
                      have c51b1 : (t166 != 2) = true := bne_iff_ne.mpr c51
                      obtain rfl := Option.some.inj H
                      go_wp2_with (first | ((with_reducible refine gate_callee (f := 16) rfl ?_); refine M.goes (some 39) Try.func16 #[.slice A1 l1.length c1] rfl ?_; (with_reducible refine (delta_Put.calls _ _ l1 t165 t166 _ ?side1 ?side2 A28.out).mono ?_); (case side1 => exact M.cB HR1 HB); (case side2 => exact HC1.out); rintro e w68 ⟨rfl, hb⟩; refine ⟨_, rfl, ?_⟩; have n0_ := M.upS HB hb; clear HB; have HB := n0_; clear n0_; (try clear hb)) | ((with_reducible refine gate_callee (f := 9) rfl ?_); refine M.goes (some 44) Try.func9 #[.slice A1 l1.length c1] rfl ?_; (with_reducible refine (pleachref11_Put.calls _ _ l1 t167 false _ ?side1 ?side2 A29.out).mono ?_); (case side1 => exact M.cB HR1 HB); (case side2 => exact HC1.out); rintro e w69 ⟨rfl, hb⟩; refine ⟨_, rfl, ?_⟩; have n0_ := M.upS HB hb; clear HB; have HB := n0_; clear n0_; (try clear hb)) | ((with_reducible refine gate_callee (f := 17) rfl ?_); refine M.goes (some 50) Try.func17 #[.string a0, .slice A1 l1.length c1] rfl ?_; (with_reducible refine (delta_Join.calls a0 _ _ l1 t169 t170 _ ?side1 ?side2 A30.out).mono ?_); (case side1 => exact M.cB HR1 HB); (case side2 => exact HC1.out); rintro e w70 ⟨rfl, hb⟩; refine ⟨_, rfl, ?_⟩; have n0_ := M.upS HB hb; clear HB; have HB := n0_; clear n0_; (try clear hb)) | ((with_reducible refine gate_callee (f := 18) rfl ?_); refine M.goes (some 56) Try.func18 #[.string a0, .slice A1 l1.length c1] rfl ?_; (with_reducible refine (pleachref11_Join.calls a0 _ _ l1 t171 t172 _ ?side1 ?side2 A31.out).mono ?_); (case side1 => exact M.cB HR1 HB); (case side2 => exact HC1.out); rintro e w71 ⟨rfl, hb⟩; refine ⟨_, rfl, ?_⟩; have n0_ := M.upS HB hb; clear HB; have HB := n0_; clear n0_; (try clear hb)))
                      go_ret
                      exact M.fin (M.up HB)
                · rw [if_neg c33] at H
                  have c33b0 : ((t166 == 0) == t168) = false := by simpa using c33
                  (try (have c33b1 : decide ((t166 == 0) = t168) = false := by simpa using c33))
                  (try (have c33b2 : ((t166 == 0) == t168) = false := by simpa using c33))
                  (try (have c33b3 : ¬ ((t166 == 0) = t168) := by simpa using c33))
                  clear c33
                  obtain rfl := Option.some.inj H
                  go_wp2_with (first | ((with_reducible refine gate_callee (f := 16) rfl ?_); refine M.goes (some 39) Try.func16 #[.slice A1 l1.length c1] rfl ?_; (with_reducible refine (delta_Put.calls _ _ l1 t165 t166 _ ?side1 ?side2 A28.out).mono ?_); (case side1 => exact M.cB HR1 HB); (case side2 => exact HC1.out); rintro e w72 ⟨rfl, hb⟩; refine ⟨_, rfl, ?_⟩; have n0_ := M.upS HB hb; clear HB; have HB := n0_; clear n0_; (try clear hb)) | ((with_reducible refine gate_callee (f := 9) rfl ?_); refine M.goes (some 44) Try.func9 #[.slice A1 l1.length c1] rfl ?_; (with_reducible refine (pleachref11_Put.calls _ _ l1 t167 t168 _ ?side1 ?side2 A29.out).mono ?_); (case side1 => exact M.cB HR1 HB); (case side2 => exact HC1.out); rintro e w73 ⟨rfl, hb⟩; refine ⟨_, rfl, ?_⟩; have n0_ := M.upS HB hb; clear HB; have HB := n0_; clear n0_; (try clear hb)) | ((with_reducible refine gate_callee (f := 17) rfl ?_); refine M.goes (some 50) Try.func17 #[.string a0, .slice A1 l1.length c1] rfl ?_; (with_reducible refine (delta_Join.calls a0 _ _ l1 t169 t170 _ ?side1 ?side2 A30.out).mono ?_); (case side1 => exact M.cB HR1 HB); (case side2 => exact HC1.out); rintro e w74 ⟨rfl, hb⟩; refine ⟨_, rfl, ?_⟩; have n0_ := M.upS HB hb; clear HB; have HB := n0_; clear n0_; (try clear hb)) | ((with_reducible refine gate_callee (f := 18) rfl ?_); refine M.goes (some 56) Try.func18 #[.string a0, .slice A1 l1.length c1] rfl ?_; (with_reducible refine (pleachref11_Join.calls a0 _ _ l1 t171 t172 _ ?side1 ?side2 A31.out).mono ?_); (case side1 => exact M.cB HR1 HB); (case side2 => exact HC1.out); rintro e w75 ⟨rfl, hb⟩; refine ⟨_, rfl, ?_⟩; have n0_ := M.upS HB hb; clear HB; have HB := n0_; clear n0_; (try clear hb)))
                  go_ret
                  exact M.fin (M.up HB)
              · rw [if_neg c32] at H
                have c32b0 : (t165.toList == t167.toList) = false := beq_eq_false_iff_ne.mpr c32
                have c32b1 : (t165.toList != t167.toList) = true := bne_iff_ne.mpr c32
                obtain rfl := Option.some.inj H
                go_wp2_with (first | ((with_reducible refine gate_callee (f := 16) rfl ?_); refine M.goes (some 39) Try.func16 #[.slice A1 l1.length c1] rfl ?_; (with_reducible refine (delta_Put.calls _ _ l1 t165 t166 _ ?side1 ?side2 A28.out).mono ?_); (case side1 => exact M.cB HR1 HB); (case side2 => exact HC1.out); rintro e w76 ⟨rfl, hb⟩; refine ⟨_, rfl, ?_⟩; have n0_ := M.upS HB hb; clear HB; have HB := n0_; clear n0_; (try clear hb)) | ((with_reducible refine gate_callee (f := 9) rfl ?_); refine M.goes (some 44) Try.func9 #[.slice A1 l1.length c1] rfl ?_; (with_reducible refine (pleachref11_Put.calls _ _ l1 t167 t168 _ ?side1 ?side2 A29.out).mono ?_); (case side1 => exact M.cB HR1 HB); (case side2 => exact HC1.out); rintro e w77 ⟨rfl, hb⟩; refine ⟨_, rfl, ?_⟩; have n0_ := M.upS HB hb; clear HB; have HB := n0_; clear n0_; (try clear hb)) | ((with_reducible refine gate_callee (f := 17) rfl ?_); refine M.goes (some 50) Try.func17 #[.string a0, .slice A1 l1.length c1] rfl ?_; (with_reducible refine (delta_Join.calls a0 _ _ l1 t169 t170 _ ?side1 ?side2 A30.out).mono ?_); (case side1 => exact M.cB HR1 HB); (case side2 => exact HC1.out); rintro e w78 ⟨rfl, hb⟩; refine ⟨_, rfl, ?_⟩; have n0_ := M.upS HB hb; clear HB; have HB := n0_; clear n0_; (try clear hb)) | ((with_reducible refine gate_callee (f := 18) rfl ?_); refine M.goes (some 56) Try.func18 #[.string a0, .slice A1 l1.length c1] rfl ?_; (with_reducible refine (pleachref11_Join.calls a0 _ _ l1 t171 t172 _ ?side1 ?side2 A31.out).mono ?_); (case side1 => exact M.cB HR1 HB); (case side2 => exact HC1.out); rintro e w79 ⟨rfl, hb⟩; refine ⟨_, rfl, ?_⟩; have n0_ := M.upS HB hb; clear HB; have HB := n0_; clear n0_; (try clear hb)))
                go_ret
                exact M.fin (M.up HB)

/-- What is known of a record that came in. -/
def Good34 (x : S34) : Prop := (True) ∧ ((Lit.int .i64 x.f1).wf = true) ∧ ((Lit.int .i64 x.f2).wf = true) ∧ (x.f3.size ≤ 9223372036854775807)
/-- THE ONE PURE STATEMENT of pleachlaw11_DeltaPuts: this session's form. -/
def pleachlaw11_DeltaPuts.Pure : Prop := ∀ (a0 : ByteArray) (l1 : List (S34)), (a0.size ≤ 140737488351232) → ((∀ y ∈ l1, Good34 y) ∧ l1.length ≤ 9223372036854775807) → ∃ k, pleachlaw11_DeltaPuts.f k a0 l1 = some true

end Go.Proofs.Ytadpicphohobbaa.EDeltaPuts
