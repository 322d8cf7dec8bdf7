-- Written by this session's own program (wip/tools/ext.py) for this claim; Lean checks it.
import Derived.Test.YtadpicphohobbaaEDeltaBackx0
import Derived.Test.YtadpicphohobbaaEDeltaBackx2
import Derived.Test.YtadpicphohobbaaEDeltaBackx3
namespace Go.Proofs.Ytadpicphohobbaa.EDeltaBack
open Go.RowKit Go.Proofs.YtadpicphohobbaaW.PrintWords Go.Proofs.YtadpicphohobbaaW.PrintLast Go.Proofs.YtadpicphohobbaaW.PrintMore
attribute [local go_sem] M.run_leq M.run_gtr M.run_geq max2_int min2_int max_two min_two max_three min_three max_four min_four   -- for this text's walks alone
set_option linter.unusedVariables false
set_option linter.unusedSimpArgs false

/-! ### delta_Put_p: function 16 -/
def delta_Put_p.l0 : Nat → ByteArray → List (S34) → Int → Int → Option (ByteArray × Int)
  | 0, _, _, _, _ => none
  | k + 1, x4, x8, x9, x10 => if x10 < x9 then (if 0 ≤ x10 then (if x10 < (x8.length : Int) then ((delta_Check.f ((rd_T34 x8 x10).f0) ((rd_T34 x8 x10).f1) ((rd_T34 x8 x10).f2) ((rd_T34 x8 x10).f3)).bind fun t114 => (if t114 = 0 then (if (rd_T34 x8 x10).f0 = true then ((scan_PutNum.f (wrap64 ((wrap64 (2 * ((rd_T34 x8 x10).f2))) + 1))).bind fun t115 => ((scan_PutNum.f ((rd_T34 x8 x10).f1)).bind fun t116 => (if t115.size + t116.size ≤ 9223372036854775807 then (if x4.size + (t115 ++ t116).size ≤ 9223372036854775807 then (delta_Put_p.l0 k (x4 ++ (t115 ++ t116)) x8 x9 (wrap64 (x10 + 1))) else (none)) else (none)))) else ((scan_PutNum.f (wrap64 (2 * ((rd_T34 x8 x10).f2)))).bind fun t117 => (if t117.size + ((rd_T34 x8 x10).f3).size ≤ 9223372036854775807 then (if x4.size + (t117 ++ ((rd_T34 x8 x10).f3)).size ≤ 9223372036854775807 then (delta_Put_p.l0 k (x4 ++ (t117 ++ ((rd_T34 x8 x10).f3))) x8 x9 (wrap64 (x10 + 1))) else (none)) else (none)))) else (some ((⟨#[]⟩ : ByteArray), t114)))) else (none)) else (none)) else (some (x4, 0))
def delta_Put_p.f (k : Nat) (l0 : List (S34)) : Option (ByteArray × Int) := delta_Put_p.l0 k (⟨#[]⟩ : ByteArray) l0 (l0.length : Int) 0
theorem delta_Put_p.mono_l : ∀ k, (∀ y0 y1 y2 y3, LeO (delta_Put_p.l0 k y0 y1 y2 y3) (delta_Put_p.l0 (k + 1) y0 y1 y2 y3))
  | 0 => fun _ _ _ _ r h => by simp [delta_Put_p.l0] at h
  | k + 1 => by
    have ih0 := delta_Put_p.mono_l k
    · intro y0 y1 y2 y3
      unfold delta_Put_p.l0
      repeat' first
      | (with_reducible exact ih0 _ _ _ _)
      | (with_reducible exact LeO.refl _)
      | (with_reducible exact LeO.none _)
      | (with_reducible refine LeO.ite ?_ ?_)
      | (with_reducible refine LeO.bind ?_ (fun _ => ?_))
      | exact ih0 _ _ _ _
      | exact LeO.none _
      | refine LeO.ite ?_ ?_
      | refine LeO.bind ?_ (fun _ => ?_)
theorem delta_Put_p.mono : ∀ a0 k, LeO (delta_Put_p.f k a0) (delta_Put_p.f (k + 1) a0) := by
  intro a0 k
  have ih0 := delta_Put_p.mono_l k
  unfold delta_Put_p.f
  repeat' first
      | (with_reducible exact ih0 _ _ _ _)
      | (with_reducible exact LeO.refl _)
      | (with_reducible exact LeO.none _)
      | (with_reducible refine LeO.ite ?_ ?_)
      | (with_reducible refine LeO.bind ?_ (fun _ => ?_))
      | exact ih0 _ _ _ _
      | exact LeO.none _
      | refine LeO.ite ?_ ?_
      | refine LeO.bind ?_ (fun _ => ?_)
def delta_Put_p.T9 : Bool × List (List Nat × List Nat) := (true, [([], []), ([], []), ([1], [1]), ([2], [2]), ([3], [3]), ([4], [4]), ([], []), ([6], [6]), ([7, 5], [7]), ([5, 8], [5, 8]), ([0, 9], [0, 9]), ([10, 8, 0, 1, 2, 3, 4, 5, 6, 7, 8, 9, 10], [0, 10])])
def delta_Put_p.B9 : List Nat := [0, 0, 2, 6, 14, 30, 0, 64, 254, 510, 1023, 2047]
theorem delta_Put_p.tab9 : rtab .any (opsOf Try.f16 9) = delta_Put_p.T9 := by kernel_rfl
theorem delta_Put_p.bits9 : waitsOk delta_Put_p.T9.2 delta_Put_p.B9 = true := by kernel_rfl
def delta_Put_p.T10 : Bool × List (List Nat × List Nat) := (true, [([], []), ([], []), ([1], [1]), ([2], [2]), ([3], [3]), ([], []), ([5], [5]), ([4, 6], [4, 6]), ([0, 7], [0, 7]), ([8, 4, 0, 1, 2, 3, 4, 5, 6, 7, 8], [0, 8])])
def delta_Put_p.B10 : List Nat := [0, 0, 2, 6, 14, 0, 32, 126, 255, 511]
theorem delta_Put_p.tab10 : rtab .any (opsOf Try.f16 10) = delta_Put_p.T10 := by kernel_rfl
theorem delta_Put_p.bits10 : waitsOk delta_Put_p.T10.2 delta_Put_p.B10 = true := by kernel_rfl
set_option maxHeartbeats 8000000 in
set_option maxRecDepth 100000 in
theorem delta_Put_p.calls (k : Nat) (A0 : Option Addr) (c0 : Nat) (l0 : List (S34)) (r1 : ByteArray) (r2 : Int) (w : World) (hr0 : Kd.C k34 w A0 l0.length l0) (hc0 : l0.length ≤ c0) (h : delta_Put_p.f k l0 = some (r1, r2)) :
    Calls Try.prog 16 #[.slice A0 l0.length c0] w fun e w' => e = .returned (.tuple #[.string r1, .int .i64 r2]) ∧ Below w.heap.size w w' := by
  have hu34 := Try.underlying34
  have HR0 := Aside0.mk hr0
  have HC0 := Aside0.mk hc0
  clear hr0 hc0
  have HB := Aside0.mk (Below.refl w.heap.size w)
  have H : (delta_Put_p.l0 k (⟨#[]⟩ : ByteArray) l0 (l0.length : Int) 0) = some (r1, r2) := h
  clear h
  have H' := Aside0.mk H
  clear H
  go_enter Try.func16, Try.ntmps16
  go_wp2
  go_loopg [4, 10] k (fun kq v4 v10 w' => ∃ (x4_1 : ByteArray) (x10_1 : Int), v4 = .string x4_1 ∧ v10 = .int .i64 x10_1 ∧ Aside0 (delta_Put_p.l0 kq x4_1 l0 (l0.length : Int) x10_1 = some (r1, r2)) ∧ Aside0 (kq ≤ k) ∧ Aside0 (Below w.heap.size w w'))
  case atStart => exact ⟨((⟨#[]⟩ : ByteArray)), (0), (by first | rfl | (simp; done) | (simp [*]; done) | (simp [M.isEmpty_bne]; done)), (by first | rfl | (simp; done) | (simp [*]; done) | (simp [M.isEmpty_bne]; done)), H', ⟨Nat.le_refl _⟩, ⟨M.up HB⟩⟩
  case round =>
    clear H'
    try clear c1
    obtain ⟨x4_1, x10_1, rfl, rfl, HA, HK1, HB⟩ := hrel
    cases gk with
    | zero => exact absurd HA.out (by simp [delta_Put_p.l0])
    | succ k1 =>
      have H := HA.out
      clear HA
      simp only [delta_Put_p.l0] at H
      by_cases c2 : x10_1 < (l0.length : Int)
      · rw [if_pos c2] at H
        have c2b0 : decide (x10_1 < (l0.length : Int)) = true := decide_eq_true c2
        clear c2
        by_cases c3 : 0 ≤ x10_1
        · rw [if_pos c3] at H
          have c3b0 : decide (0 ≤ x10_1) = true := decide_eq_true c3
          clear c3
          by_cases c4 : x10_1 < (l0.length : Int)
          · rw [if_pos c4] at H
            have c4b0 : decide (x10_1 < (l0.length : Int)) = true := decide_eq_true c4
            clear c4
            replace H := Option.bind_eq_some_iff.mp H
            obtain ⟨t114, A50, H⟩ := H
            replace H : (if t114 = 0 then (if (rd_T34 l0 x10_1).f0 = true then ((scan_PutNum.f (wrap64 ((wrap64 (2 * ((rd_T34 l0 x10_1).f2))) + 1))).bind fun t115 => ((scan_PutNum.f ((rd_T34 l0 x10_1).f1)).bind fun t116 => (if t115.size + t116.size ≤ 9223372036854775807 then (if x4_1.size + (t115 ++ t116).size ≤ 9223372036854775807 then (delta_Put_p.l0 k1 (x4_1 ++ (t115 ++ t116)) l0 (l0.length : Int) (wrap64 (x10_1 + 1))) else (none)) else (none)))) else ((scan_PutNum.f (wrap64 (2 * ((rd_T34 l0 x10_1).f2)))).bind fun t117 => (if t117.size + ((rd_T34 l0 x10_1).f3).size ≤ 9223372036854775807 then (if x4_1.size + (t117 ++ ((rd_T34 l0 x10_1).f3)).size ≤ 9223372036854775807 then (delta_Put_p.l0 k1 (x4_1 ++ (t117 ++ ((rd_T34 l0 x10_1).f3))) l0 (l0.length : Int) (wrap64 (x10_1 + 1))) else (none)) else (none)))) else (some ((⟨#[]⟩ : ByteArray), t114))) = some (r1, r2) := H
            have A5 := Aside0.mk A50
            clear A50
            by_cases c6 : t114 = 0
            · rw [if_pos c6] at H
              have c6b0 : (t114 == 0) = true := beq_iff_eq.mpr c6
              have c6b1 : (t114 != 0) = false := bne_eq_false_iff_eq.mpr c6
              clear c6
              obtain ⟨bq7, hbq7⟩ : ∃ b_ : Bool, b_ = ((rd_T34 l0 x10_1).f0) := ⟨_, rfl⟩
              replace H : (if bq7 = true then ((scan_PutNum.f (wrap64 ((wrap64 (2 * ((rd_T34 l0 x10_1).f2))) + 1))).bind fun t115 => ((scan_PutNum.f ((rd_T34 l0 x10_1).f1)).bind fun t116 => (if t115.size + t116.size ≤ 9223372036854775807 then (if x4_1.size + (t115 ++ t116).size ≤ 9223372036854775807 then (delta_Put_p.l0 k1 (x4_1 ++ (t115 ++ t116)) l0 (l0.length : Int) (wrap64 (x10_1 + 1))) else (none)) else (none)))) else ((scan_PutNum.f (wrap64 (2 * ((rd_T34 l0 x10_1).f2)))).bind fun t117 => (if t117.size + ((rd_T34 l0 x10_1).f3).size ≤ 9223372036854775807 then (if x4_1.size + (t117 ++ ((rd_T34 l0 x10_1).f3)).size ≤ 9223372036854775807 then (delta_Put_p.l0 k1 (x4_1 ++ (t117 ++ ((rd_T34 l0 x10_1).f3))) l0 (l0.length : Int) (wrap64 (x10_1 + 1))) else (none)) else (none)))) = some (r1, r2) := by rw [← hbq7] at H; exact H
              have Nbq7 := Aside0.mk hbq7
              clear hbq7
              by_cases c8 : bq7 = true
              · subst c8
                have H1 : ((scan_PutNum.f (wrap64 ((wrap64 (2 * ((rd_T34 l0 x10_1).f2))) + 1))).bind fun t115 => ((scan_PutNum.f ((rd_T34 l0 x10_1).f1)).bind fun t116 => (if t115.size + t116.size ≤ 9223372036854775807 then (if x4_1.size + (t115 ++ t116).size ≤ 9223372036854775807 then (delta_Put_p.l0 k1 (x4_1 ++ (t115 ++ t116)) l0 (l0.length : Int) (wrap64 (x10_1 + 1))) else (none)) else (none)))) = some (r1, r2) := by rw [if_pos rfl] at H; exact H
                clear H
                have H := H1
                clear H1
                replace H := Option.bind_eq_some_iff.mp H
                obtain ⟨t115, A90, H⟩ := H
                replace H : ((scan_PutNum.f ((rd_T34 l0 x10_1).f1)).bind fun t116 => (if t115.size + t116.size ≤ 9223372036854775807 then (if x4_1.size + (t115 ++ t116).size ≤ 9223372036854775807 then (delta_Put_p.l0 k1 (x4_1 ++ (t115 ++ t116)) l0 (l0.length : Int) (wrap64 (x10_1 + 1))) else (none)) else (none))) = some (r1, r2) := H
                have A9 := Aside0.mk A90
                clear A90
                replace H := Option.bind_eq_some_iff.mp H
                obtain ⟨t116, A100, H⟩ := H
                replace H : (if t115.size + t116.size ≤ 9223372036854775807 then (if x4_1.size + (t115 ++ t116).size ≤ 9223372036854775807 then (delta_Put_p.l0 k1 (x4_1 ++ (t115 ++ t116)) l0 (l0.length : Int) (wrap64 (x10_1 + 1))) else (none)) else (none)) = some (r1, r2) := H
                have A10 := Aside0.mk A100
                clear A100
                by_cases c11 : t115.size + t116.size ≤ 9223372036854775807
                · rw [if_pos c11] at H
                  have c11b0 := eq_true c11
                  have c11b1 : decide (t115.size + t116.size ≤ 9223372036854775807) = true := decide_eq_true c11
                  try have c11b2 : (9223372036854775807 < t115.size + t116.size) = False := eq_false (Nat.not_lt.2 c11)
                  by_cases c12 : x4_1.size + (t115 ++ t116).size ≤ 9223372036854775807
                  · rw [if_pos c12] at H
                    have c12b0 := eq_true c12
                    have c12b1 : decide (x4_1.size + (t115 ++ t116).size ≤ 9223372036854775807) = true := decide_eq_true c12
                    try have c12b2 : (9223372036854775807 < x4_1.size + (t115 ++ t116).size) = False := eq_false (Nat.not_lt.2 c12)
                    have c12m := c12
                    (try simp only [ByteArray.size_append] at c12m)
                    have c12b3 := eq_true c12m
                    have c12b4 := eq_false (Nat.not_lt.2 c12m)
                    have c12b5 := decide_eq_true c12m
                    have H' := Aside0.mk H
                    clear H
                    have p112 : 0 ≤ (x10_1 : Int) := of_decide_eq_true (by first | (with_reducible assumption) | assumption)
                    have q112 : x10_1 < (l0.length : Int) := of_decide_eq_true (by first | (with_reducible assumption) | assumption)
                    obtain ⟨ad112, e112, hx112_0, hx112_1, hx112_2, hx112_3⟩ := at_T34 HR0.out x10_1 p112 q112
                    (try rw [← Nbq7.out] at hx112_0)
                    cases e112
                    replace hx112_0 := (HB.out.cell (World.block_lt_of_cell? w _ hx112_0)).trans hx112_0
                    replace hx112_1 := (HB.out.cell (World.block_lt_of_cell? w _ hx112_1)).trans hx112_1
                    replace hx112_2 := (HB.out.cell (World.block_lt_of_cell? w _ hx112_2)).trans hx112_2
                    replace hx112_3 := (HB.out.cell (World.block_lt_of_cell? w _ hx112_3)).trans hx112_3
                    replace p112 := eq_true p112
                    replace q112 := eq_true q112
                    try go_wp2_with (first | ((with_reducible refine gate_dst (N := 6) rfl ?_); refine box_event ?hg (N := 6) ?hd (cs := #[.bool false, .int .i64 0, .int .i64 0, .string (⟨#[]⟩ : ByteArray)]) (t := 34) ?hr ?_; (case hd => rfl); (case hg => rfl); (case hr => first | (go_simp; done) | (go_simp; rfl)); intro zaa hg w13 hbox hb; have n0_ := M.upS HB hb; have n1_ := Aside0.mk (hbox); have n2_ := M.upG HB hg; have n3_ := M.upG HB hg; clear HB; have HB := n0_; have zab := n1_; have zac := n2_; have zad := n3_; clear n0_ n1_ n2_ n3_; clear hb hbox hg; have zae : w13.cell? ⟨zaa, 0, none⟩ = some (.bool false) := (blk_cell zab.out 0).trans rfl; have zaf : w13.cell? ⟨zaa, 1, none⟩ = some (.int .i64 0) := (blk_cell zab.out 1).trans rfl; have zag : w13.cell? ⟨zaa, 2, none⟩ = some (.int .i64 0) := (blk_cell zab.out 2).trans rfl; have zah : w13.cell? ⟨zaa, 3, none⟩ = some (.string (⟨#[]⟩ : ByteArray)) := (blk_cell zab.out 3).trans rfl; have zai := blk_frozen zab.out 0; have zaj := blk_frozen zab.out 1; have zak := blk_frozen zab.out 2; have zal := blk_frozen zab.out 3) | ((with_reducible refine gate_callee (f := 14) rfl ?_); refine M.goes (some 15) Try.func14 #[.agg #[.bool true, .int .i64 ((rd_T34 l0 x10_1).f1), .int .i64 ((rd_T34 l0 x10_1).f2), .string ((rd_T34 l0 x10_1).f3)]] rfl ?_; (with_reducible refine (delta_Check.calls true ((rd_T34 l0 x10_1).f1) ((rd_T34 l0 x10_1).f2) ((rd_T34 l0 x10_1).f3) t114 _ (by first | exact A5.out | (have q_ := A5.out; rw [← Nbq7.out] at q_; exact q_))).mono ?_); rintro e w15 ⟨rfl, hb⟩; refine ⟨_, rfl, ?_⟩; have n0_ := Aside0.mk (blk_below (g := zaa) (o := .cells #[.bool true, .int .i64 ((rd_T34 l0 x10_1).f1), .int .i64 ((rd_T34 l0 x10_1).f2), .string ((rd_T34 l0 x10_1).f3)] 34 (0, 0)) (by (with_reducible repeat (first | refine blk_drewN ?_ _ | refine blk_drew ?_ | refine blk_alloc ?_ _)); refine blk_put (cs := #[.bool true, .int .i64 ((rd_T34 l0 x10_1).f1), .int .i64 ((rd_T34 l0 x10_1).f2), .string (⟨#[]⟩ : ByteArray)]) ?_ 3 _ rfl; (with_reducible repeat (first | refine blk_drewN ?_ _ | refine blk_drew ?_ | refine blk_alloc ?_ _)); refine blk_put (cs := #[.bool true, .int .i64 ((rd_T34 l0 x10_1).f1), .int .i64 0, .string (⟨#[]⟩ : ByteArray)]) ?_ 2 _ rfl; (with_reducible repeat (first | refine blk_drewN ?_ _ | refine blk_drew ?_ | refine blk_alloc ?_ _)); refine blk_put (cs := #[.bool true, .int .i64 0, .int .i64 0, .string (⟨#[]⟩ : ByteArray)]) ?_ 1 _ rfl; (with_reducible repeat (first | refine blk_drewN ?_ _ | refine blk_drew ?_ | refine blk_alloc ?_ _)); refine blk_put (cs := #[.bool false, .int .i64 0, .int .i64 0, .string (⟨#[]⟩ : ByteArray)]) ?_ 0 _ rfl; (with_reducible repeat (first | refine blk_drewN ?_ _ | refine blk_drew ?_ | refine blk_alloc ?_ _)); exact zab.out) hb); have n1_ := M.upS HB hb; clear zab HB; have zab := n0_; have HB := n1_; clear n0_ n1_; (try clear hb); have zam : w15.cell? ⟨zaa, 0, none⟩ = some (.bool true) := (blk_cell zab.out 0).trans rfl; have zan : w15.cell? ⟨zaa, 1, none⟩ = some (.int .i64 ((rd_T34 l0 x10_1).f1)) := (blk_cell zab.out 1).trans rfl; have zao : w15.cell? ⟨zaa, 2, none⟩ = some (.int .i64 ((rd_T34 l0 x10_1).f2)) := (blk_cell zab.out 2).trans rfl; have zap : w15.cell? ⟨zaa, 3, none⟩ = some (.string ((rd_T34 l0 x10_1).f3)) := (blk_cell zab.out 3).trans rfl; have zaq := blk_frozen zab.out 0; have zar := blk_frozen zab.out 1; have zas := blk_frozen zab.out 2; have zat := blk_frozen zab.out 3))
                    have n0_ := Aside0.mk (blk_drew zab.out)
                    have n1_ := Aside0.mk (below_drew1 HB.out)
                    clear zab HB
                    have zab := n0_
                    have HB := n1_
                    clear n0_ n1_
                    refine start_ (n := 12) (S := fun w' => w'.cell? ⟨zaa, 0, none⟩ = some (.bool true) ∧ w'.cell? ⟨zaa, 1, none⟩ = some (.int .i64 ((rd_T34 l0 x10_1).f1)) ∧ w'.cell? ⟨zaa, 2, none⟩ = some (.int .i64 ((rd_T34 l0 x10_1).f2)) ∧ w'.cell? ⟨zaa, 3, none⟩ = some (.string ((rd_T34 l0 x10_1).f3))) (ds := []) (M.tf [0, 12]) (by kernel_rfl) rfl rfl ⟨(blk_cell zab.out 0).trans rfl, (blk_cell zab.out 1).trans rfl, (blk_cell zab.out 2).trans rfl, (blk_cell zab.out 3).trans rfl⟩ (fun hHeld => ?_); refine with_tabW delta_Put_p.tab9 delta_Put_p.bits9 (fun HT_ HW_ => ?_)
                    generalize w15.drew = w17 at zab HB hHeld ⊢
                    refine pure_ (i := 0) (N := some 21) (v := ?_) (a' := ?_) (M.tf [1, 11]) rfl rfl (any_of HT_.out (by kernel_rfl)) (fun _ _ _ h => h) (Or.inl ⟨by rfl, ?_⟩) ?_ ?_
                    rotate_left
                    · intro w'
                      go_simp
                      with_reducible rfl
                    rotate_left
                    · simp only [Act.put, List.setIfInBounds_toArray, List.set_cons_zero, List.set_cons_succ, i64_w, i32_w]
                      rfl
                    refine pure_ (i := 1) (N := some 22) (v := ?_) (a' := ?_) (M.tf [2, 10]) rfl rfl (any_of HT_.out (by kernel_rfl)) (fun _ _ _ h => h) (Or.inl ⟨by rfl, ?_⟩) ?_ ?_
                    rotate_left
                    · intro w'
                      go_simp
                      with_reducible rfl
                    rotate_left
                    · simp only [Act.put, List.setIfInBounds_toArray, List.set_cons_zero, List.set_cons_succ, i64_w, i32_w]
                      rfl
                    refine pure_ (i := 6) (N := some 27) (v := ?_) (a' := ?_) (M.tf [2, 4, 1, 5]) rfl rfl (any_of HT_.out (by kernel_rfl)) (fun _ _ _ h => h) (Or.inl ⟨by rfl, ?_⟩) ?_ ?_
                    rotate_left
                    · intro w'
                      go_simp
                      with_reducible rfl
                    rotate_left
                    · simp only [Act.put, List.setIfInBounds_toArray, List.set_cons_zero, List.set_cons_succ, i64_w, i32_w]
                      rfl
                    refine take_ (i := 2) (N := some 23) (v := ?_) (a' := ?_) (M.tf [3, 3, 1, 5]) rfl rfl (take_ofW HT_.out HW_.out (by kernel_rfl)) (fun _ _ _ h => h) (Or.inl ⟨by rfl, ?_⟩) hHeld ?_ ?_
                    rotate_left
                    · rintro w' ⟨s0, s1, s2, s3⟩
                      go_simp
                      with_reducible rfl
                    rotate_left
                    · simp only [Act.put, List.setIfInBounds_toArray, List.set_cons_zero, List.set_cons_succ, i64_w, i32_w]
                      rfl
                    refine pure_ (i := 3) (N := some 24) (v := ?_) (a' := ?_) (M.tf [4, 2, 1, 5]) rfl rfl (any_of HT_.out (by kernel_rfl)) (fun _ _ _ h => h) (Or.inl ⟨by rfl, ?_⟩) ?_ ?_
                    rotate_left
                    · intro w'
                      go_simp
                      with_reducible rfl
                    rotate_left
                    · simp only [Act.put, List.setIfInBounds_toArray, List.set_cons_zero, List.set_cons_succ, i64_w, i32_w]
                      rfl
                    refine pure_ (i := 4) (N := some 25) (v := ?_) (a' := ?_) (M.tf [5, 1, 1, 5]) rfl rfl (any_of HT_.out (by kernel_rfl)) (fun _ _ _ h => h) (Or.inl ⟨by rfl, ?_⟩) ?_ ?_
                    rotate_left
                    · intro w'
                      go_simp
                      with_reducible rfl
                    rotate_left
                    · simp only [Act.put, List.setIfInBounds_toArray, List.set_cons_zero, List.set_cons_succ, i64_w, i32_w]
                      rfl
                    refine take_ (i := 7) (N := some 28) (v := ?_) (a' := ?_) (M.tf [5, 1, 2, 4]) rfl rfl (take_ofW HT_.out HW_.out (by kernel_rfl)) (fun _ _ _ h => h) (Or.inl ⟨by rfl, ?_⟩) hHeld ?_ ?_
                    rotate_left
                    · rintro w' ⟨s0, s1, s2, s3⟩
                      go_simp
                      with_reducible rfl
                    rotate_left
                    · simp only [Act.put, List.setIfInBounds_toArray, List.set_cons_zero, List.set_cons_succ, i64_w, i32_w]
                      rfl
                    refine one_ (i := 5) (N := some 26) (M.tf [8, 4]) rfl rfl (one_of HT_.out (by kernel_rfl)) (by decide) (fun K hK => ?_)
                    refine goes_ Try.func28 (by kernel_rfl) rfl #[.int .i64 (wrap64 ((wrap64 (2 * ((rd_T34 l0 x10_1).f2))) + 1))] (by rfl) rfl rfl (by (try simp only [List.map_toArray, List.map_cons, List.map_nil]); first | done | rfl | (simp only [List.length_drop, List.length_take]; rfl)) ?_
                    with_reducible refine (scan_PutNum.calls (wrap64 ((wrap64 (2 * ((rd_T34 l0 x10_1).f2))) + 1)) t115 _ A9.out).mono ?_
                    rintro e w18 ⟨rfl, hb⟩
                    refine ⟨_, rfl, ?_⟩
                    have n0_ := M.bkB zab hb
                    have n1_ := M.upS HB hb
                    clear zab HB
                    have zab := n0_
                    have HB := n1_
                    clear n0_ n1_
                    (try clear hb)
                    (try clear hb2)
                    (try clear hk)
                    (try clear hi)
                    refine hK.out _ _ ⟨(blk_cell zab.out 0).trans rfl, (blk_cell zab.out 1).trans rfl, (blk_cell zab.out 2).trans rfl, (blk_cell zab.out 3).trans rfl⟩ (fun hHeld => ?_)
                    clear hK K
                    refine norm_ (a' := ?_) ?_ ?_
                    rotate_left
                    · show Act.put _ (some 26) _ = _
                      simp only [Act.put, List.setIfInBounds_toArray, List.set_cons_zero, List.set_cons_succ, i64_w, i32_w]
                      rfl
                    refine one_ (i := 8) (N := some 29) (M.tf [9, 3]) rfl rfl (one_of HT_.out (by kernel_rfl)) (by decide) (fun K hK => ?_)
                    refine goes_ Try.func28 (by kernel_rfl) rfl #[.int .i64 ((rd_T34 l0 x10_1).f1)] (by rfl) rfl rfl (by (try simp only [List.map_toArray, List.map_cons, List.map_nil]); first | done | rfl | (simp only [List.length_drop, List.length_take]; rfl)) ?_
                    with_reducible refine (scan_PutNum.calls ((rd_T34 l0 x10_1).f1) t116 _ A10.out).mono ?_
                    rintro e w19 ⟨rfl, hb⟩
                    refine ⟨_, rfl, ?_⟩
                    have n0_ := M.bkB zab hb
                    have n1_ := M.upS HB hb
                    clear zab HB
                    have zab := n0_
                    have HB := n1_
                    clear n0_ n1_
                    (try clear hb)
                    (try clear hb2)
                    (try clear hk)
                    (try clear hi)
                    refine hK.out _ _ ⟨(blk_cell zab.out 0).trans rfl, (blk_cell zab.out 1).trans rfl, (blk_cell zab.out 2).trans rfl, (blk_cell zab.out 3).trans rfl⟩ (fun hHeld => ?_)
                    clear hK K
                    refine norm_ (a' := ?_) ?_ ?_
                    rotate_left
                    · show Act.put _ (some 29) _ = _
                      simp only [Act.put, List.setIfInBounds_toArray, List.set_cons_zero, List.set_cons_succ, i64_w, i32_w]
                      rfl
                    refine pure_ (i := 9) (N := some 30) (v := ?_) (a' := ?_) (M.tf [10, 2]) rfl rfl (any_of HT_.out (by kernel_rfl)) (fun _ _ _ h => h) (Or.inl ⟨by rfl, ?_⟩) ?_ ?_
                    rotate_left
                    · intro w'
                      go_simp
                      with_reducible rfl
                    rotate_left
                    · simp only [Act.put, List.setIfInBounds_toArray, List.set_cons_zero, List.set_cons_succ, i64_w, i32_w]
                      rfl
                    refine pure_ (i := 10) (N := some 31) (v := ?_) (a' := ?_) (M.tf [11, 1]) rfl rfl (any_of HT_.out (by kernel_rfl)) (fun _ _ _ h => h) (Or.inl ⟨by rfl, ?_⟩) ?_ ?_
                    rotate_left
                    · intro w'
                      go_simp
                      with_reducible rfl
                    rotate_left
                    · simp only [Act.put, List.setIfInBounds_toArray, List.set_cons_zero, List.set_cons_succ, i64_w, i32_w]
                      rfl
                    refine pure_ (i := 11) (N := some 4) (v := ?_) (a' := ?_) (M.tf [12]) rfl rfl (any_of HT_.out (by kernel_rfl)) (fun _ _ _ h => h) (Or.inl ⟨by rfl, ?_⟩) ?_ ?_
                    rotate_left
                    · intro w'
                      go_simp
                      with_reducible rfl
                    rotate_left
                    · simp only [Act.put, List.setIfInBounds_toArray, List.set_cons_zero, List.set_cons_succ, i64_w, i32_w]
                      rfl
                    refine done_ (done_of HT_.out (by kernel_rfl)) ?_
                    try go_wp2
                    go_roundg k1
                    case measure => have := HK1.out; omega
                    case rel => exact ⟨(x4_1 ++ (t115 ++ t116)), (wrap64 (x10_1 + 1)), (by first | rfl | (simp; done) | (simp [*]; done) | (simp [M.isEmpty_bne]; done)), (by first | rfl | (simp; done) | (simp [*]; done) | (simp [M.isEmpty_bne]; done)), H', ⟨by have := HK1.out; omega⟩, ⟨M.up HB⟩⟩
                  · rw [if_neg c12] at H
                    exact absurd H (by simp)
                · rw [if_neg c11] at H
                  exact absurd H (by simp)
              · replace c8 := Bool.eq_false_iff.mpr c8
                subst c8
                have H1 : ((scan_PutNum.f (wrap64 (2 * ((rd_T34 l0 x10_1).f2)))).bind fun t117 => (if t117.size + ((rd_T34 l0 x10_1).f3).size ≤ 9223372036854775807 then (if x4_1.size + (t117 ++ ((rd_T34 l0 x10_1).f3)).size ≤ 9223372036854775807 then (delta_Put_p.l0 k1 (x4_1 ++ (t117 ++ ((rd_T34 l0 x10_1).f3))) l0 (l0.length : Int) (wrap64 (x10_1 + 1))) else (none)) else (none))) = some (r1, r2) := by rw [if_neg (show ¬ (false = true) by decide)] at H; exact H
                clear H
                have H := H1
                clear H1
                replace H := Option.bind_eq_some_iff.mp H
                obtain ⟨t117, A200, H⟩ := H
                replace H : (if t117.size + ((rd_T34 l0 x10_1).f3).size ≤ 9223372036854775807 then (if x4_1.size + (t117 ++ ((rd_T34 l0 x10_1).f3)).size ≤ 9223372036854775807 then (delta_Put_p.l0 k1 (x4_1 ++ (t117 ++ ((rd_T34 l0 x10_1).f3))) l0 (l0.length : Int) (wrap64 (x10_1 + 1))) else (none)) else (none)) = some (r1, r2) := H
                have A20 := Aside0.mk A200
                clear A200
                by_cases c21 : t117.size + ((rd_T34 l0 x10_1).f3).size ≤ 9223372036854775807
                · rw [if_pos c21] at H
                  have c21b0 := eq_true c21
                  have c21b1 : decide (t117.size + ((rd_T34 l0 x10_1).f3).size ≤ 9223372036854775807) = true := decide_eq_true c21
                  try have c21b2 : (9223372036854775807 < t117.size + ((rd_T34 l0 x10_1).f3).size) = False := eq_false (Nat.not_lt.2 c21)
                  by_cases c22 : x4_1.size + (t117 ++ ((rd_T34 l0 x10_1).f3)).size ≤ 9223372036854775807
                  · rw [if_pos c22] at H
                    have c22b0 := eq_true c22
                    have c22b1 : decide (x4_1.size + (t117 ++ ((rd_T34 l0 x10_1).f3)).size ≤ 9223372036854775807) = true := decide_eq_true c22
                    try have c22b2 : (9223372036854775807 < x4_1.size + (t117 ++ ((rd_T34 l0 x10_1).f3)).size) = False := eq_false (Nat.not_lt.2 c22)
                    have c22m := c22
                    (try simp only [ByteArray.size_append] at c22m)
                    have c22b3 := eq_true c22m
                    have c22b4 := eq_false (Nat.not_lt.2 c22m)
                    have c22b5 := decide_eq_true c22m
                    have H' := Aside0.mk H
                    clear H
                    have p112 : 0 ≤ (x10_1 : Int) := of_decide_eq_true (by first | (with_reducible assumption) | assumption)
                    have q112 : x10_1 < (l0.length : Int) := of_decide_eq_true (by first | (with_reducible assumption) | assumption)
                    obtain ⟨ad112, e112, hx112_0, hx112_1, hx112_2, hx112_3⟩ := at_T34 HR0.out x10_1 p112 q112
                    (try rw [← Nbq7.out] at hx112_0)
                    cases e112
                    replace hx112_0 := (HB.out.cell (World.block_lt_of_cell? w _ hx112_0)).trans hx112_0
                    replace hx112_1 := (HB.out.cell (World.block_lt_of_cell? w _ hx112_1)).trans hx112_1
                    replace hx112_2 := (HB.out.cell (World.block_lt_of_cell? w _ hx112_2)).trans hx112_2
                    replace hx112_3 := (HB.out.cell (World.block_lt_of_cell? w _ hx112_3)).trans hx112_3
                    replace p112 := eq_true p112
                    replace q112 := eq_true q112
                    try go_wp2_with (first | ((with_reducible refine gate_dst (N := 6) rfl ?_); refine box_event ?hg (N := 6) ?hd (cs := #[.bool false, .int .i64 0, .int .i64 0, .string (⟨#[]⟩ : ByteArray)]) (t := 34) ?hr ?_; (case hd => rfl); (case hg => rfl); (case hr => first | (go_simp; done) | (go_simp; rfl)); intro zaa hg w23 hbox hb; have n0_ := M.upS HB hb; have n1_ := Aside0.mk (hbox); have n2_ := M.upG HB hg; have n3_ := M.upG HB hg; clear HB; have HB := n0_; have zab := n1_; have zac := n2_; have zad := n3_; clear n0_ n1_ n2_ n3_; clear hb hbox hg; have zau : w23.cell? ⟨zaa, 0, none⟩ = some (.bool false) := (blk_cell zab.out 0).trans rfl; have zav : w23.cell? ⟨zaa, 1, none⟩ = some (.int .i64 0) := (blk_cell zab.out 1).trans rfl; have zaw : w23.cell? ⟨zaa, 2, none⟩ = some (.int .i64 0) := (blk_cell zab.out 2).trans rfl; have zax : w23.cell? ⟨zaa, 3, none⟩ = some (.string (⟨#[]⟩ : ByteArray)) := (blk_cell zab.out 3).trans rfl; have zay := blk_frozen zab.out 0; have zaz := blk_frozen zab.out 1; have zaA := blk_frozen zab.out 2; have zaB := blk_frozen zab.out 3) | ((with_reducible refine gate_callee (f := 14) rfl ?_); refine M.goes (some 15) Try.func14 #[.agg #[.bool false, .int .i64 ((rd_T34 l0 x10_1).f1), .int .i64 ((rd_T34 l0 x10_1).f2), .string ((rd_T34 l0 x10_1).f3)]] rfl ?_; (with_reducible refine (delta_Check.calls false ((rd_T34 l0 x10_1).f1) ((rd_T34 l0 x10_1).f2) ((rd_T34 l0 x10_1).f3) t114 _ (by first | exact A5.out | (have q_ := A5.out; rw [← Nbq7.out] at q_; exact q_))).mono ?_); rintro e w25 ⟨rfl, hb⟩; refine ⟨_, rfl, ?_⟩; have n0_ := Aside0.mk (blk_below (g := zaa) (o := .cells #[.bool false, .int .i64 ((rd_T34 l0 x10_1).f1), .int .i64 ((rd_T34 l0 x10_1).f2), .string ((rd_T34 l0 x10_1).f3)] 34 (0, 0)) (by (with_reducible repeat (first | refine blk_drewN ?_ _ | refine blk_drew ?_ | refine blk_alloc ?_ _)); refine blk_put (cs := #[.bool false, .int .i64 ((rd_T34 l0 x10_1).f1), .int .i64 ((rd_T34 l0 x10_1).f2), .string (⟨#[]⟩ : ByteArray)]) ?_ 3 _ rfl; (with_reducible repeat (first | refine blk_drewN ?_ _ | refine blk_drew ?_ | refine blk_alloc ?_ _)); refine blk_put (cs := #[.bool false, .int .i64 ((rd_T34 l0 x10_1).f1), .int .i64 0, .string (⟨#[]⟩ : ByteArray)]) ?_ 2 _ rfl; (with_reducible repeat (first | refine blk_drewN ?_ _ | refine blk_drew ?_ | refine blk_alloc ?_ _)); refine blk_put (cs := #[.bool false, .int .i64 0, .int .i64 0, .string (⟨#[]⟩ : ByteArray)]) ?_ 1 _ rfl; (with_reducible repeat (first | refine blk_drewN ?_ _ | refine blk_drew ?_ | refine blk_alloc ?_ _)); refine blk_put (cs := #[.bool false, .int .i64 0, .int .i64 0, .string (⟨#[]⟩ : ByteArray)]) ?_ 0 _ rfl; (with_reducible repeat (first | refine blk_drewN ?_ _ | refine blk_drew ?_ | refine blk_alloc ?_ _)); exact zab.out) hb); have n1_ := M.upS HB hb; clear zab HB; have zab := n0_; have HB := n1_; clear n0_ n1_; (try clear hb); have zaC : w25.cell? ⟨zaa, 0, none⟩ = some (.bool false) := (blk_cell zab.out 0).trans rfl; have zaD : w25.cell? ⟨zaa, 1, none⟩ = some (.int .i64 ((rd_T34 l0 x10_1).f1)) := (blk_cell zab.out 1).trans rfl; have zaE : w25.cell? ⟨zaa, 2, none⟩ = some (.int .i64 ((rd_T34 l0 x10_1).f2)) := (blk_cell zab.out 2).trans rfl; have zaF : w25.cell? ⟨zaa, 3, none⟩ = some (.string ((rd_T34 l0 x10_1).f3)) := (blk_cell zab.out 3).trans rfl; have zaG := blk_frozen zab.out 0; have zaH := blk_frozen zab.out 1; have zaI := blk_frozen zab.out 2; have zaJ := blk_frozen zab.out 3))
                    have n0_ := Aside0.mk (blk_drew zab.out)
                    have n1_ := Aside0.mk (below_drew1 HB.out)
                    clear zab HB
                    have zab := n0_
                    have HB := n1_
                    clear n0_ n1_
                    refine start_ (n := 10) (S := fun w' => w'.cell? ⟨zaa, 0, none⟩ = some (.bool false) ∧ w'.cell? ⟨zaa, 1, none⟩ = some (.int .i64 ((rd_T34 l0 x10_1).f1)) ∧ w'.cell? ⟨zaa, 2, none⟩ = some (.int .i64 ((rd_T34 l0 x10_1).f2)) ∧ w'.cell? ⟨zaa, 3, none⟩ = some (.string ((rd_T34 l0 x10_1).f3))) (ds := []) #[false, false, false, false, false, false, false, false, false, false] (by kernel_rfl) rfl rfl ⟨(blk_cell zab.out 0).trans rfl, (blk_cell zab.out 1).trans rfl, (blk_cell zab.out 2).trans rfl, (blk_cell zab.out 3).trans rfl⟩ (fun hHeld => ?_); refine with_tabW delta_Put_p.tab10 delta_Put_p.bits10 (fun HT_ HW_ => ?_)
                    generalize w25.drew = w27 at zab HB hHeld ⊢
                    refine pure_ (i := 0) (N := some 32) (v := ?_) (a' := ?_) #[true, false, false, false, false, false, false, false, false, false] rfl rfl (any_of HT_.out (by kernel_rfl)) (fun _ _ _ h => h) (Or.inl ⟨by rfl, ?_⟩) ?_ ?_
                    rotate_left
                    · intro w'
                      go_simp
                      with_reducible rfl
                    rotate_left
                    · simp only [Act.put, List.setIfInBounds_toArray, List.set_cons_zero, List.set_cons_succ, i64_w, i32_w]
                      rfl
                    refine pure_ (i := 1) (N := some 33) (v := ?_) (a' := ?_) #[true, true, false, false, false, false, false, false, false, false] rfl rfl (any_of HT_.out (by kernel_rfl)) (fun _ _ _ h => h) (Or.inl ⟨by rfl, ?_⟩) ?_ ?_
                    rotate_left
                    · intro w'
                      go_simp
                      with_reducible rfl
                    rotate_left
                    · simp only [Act.put, List.setIfInBounds_toArray, List.set_cons_zero, List.set_cons_succ, i64_w, i32_w]
                      rfl
                    refine pure_ (i := 5) (N := some 37) (v := ?_) (a' := ?_) #[true, true, false, false, false, true, false, false, false, false] rfl rfl (any_of HT_.out (by kernel_rfl)) (fun _ _ _ h => h) (Or.inl ⟨by rfl, ?_⟩) ?_ ?_
                    rotate_left
                    · intro w'
                      go_simp
                      with_reducible rfl
                    rotate_left
                    · simp only [Act.put, List.setIfInBounds_toArray, List.set_cons_zero, List.set_cons_succ, i64_w, i32_w]
                      rfl
                    refine take_ (i := 2) (N := some 34) (v := ?_) (a' := ?_) #[true, true, true, false, false, true, false, false, false, false] rfl rfl (take_ofW HT_.out HW_.out (by kernel_rfl)) (fun _ _ _ h => h) (Or.inl ⟨by rfl, ?_⟩) hHeld ?_ ?_
                    rotate_left
                    · rintro w' ⟨s0, s1, s2, s3⟩
                      go_simp
                      with_reducible rfl
                    rotate_left
                    · simp only [Act.put, List.setIfInBounds_toArray, List.set_cons_zero, List.set_cons_succ, i64_w, i32_w]
                      rfl
                    refine pure_ (i := 3) (N := some 35) (v := ?_) (a' := ?_) #[true, true, true, true, false, true, false, false, false, false] rfl rfl (any_of HT_.out (by kernel_rfl)) (fun _ _ _ h => h) (Or.inl ⟨by rfl, ?_⟩) ?_ ?_
                    rotate_left
                    · intro w'
                      go_simp
                      with_reducible rfl
                    rotate_left
                    · simp only [Act.put, List.setIfInBounds_toArray, List.set_cons_zero, List.set_cons_succ, i64_w, i32_w]
                      rfl
                    refine take_ (i := 6) (N := some 38) (v := ?_) (a' := ?_) #[true, true, true, true, false, true, true, false, false, false] rfl rfl (take_ofW HT_.out HW_.out (by kernel_rfl)) (fun _ _ _ h => h) (Or.inl ⟨by rfl, ?_⟩) hHeld ?_ ?_
                    rotate_left
                    · rintro w' ⟨s0, s1, s2, s3⟩
                      go_simp
                      with_reducible rfl
                    rotate_left
                    · simp only [Act.put, List.setIfInBounds_toArray, List.set_cons_zero, List.set_cons_succ, i64_w, i32_w]
                      rfl
                    refine one_ (i := 4) (N := some 36) #[true, true, true, true, true, true, true, false, false, false] rfl rfl (one_of HT_.out (by kernel_rfl)) (by decide) (fun K hK => ?_)
                    refine goes_ Try.func28 (by kernel_rfl) rfl #[.int .i64 (wrap64 (2 * ((rd_T34 l0 x10_1).f2)))] (by rfl) rfl rfl (by (try simp only [List.map_toArray, List.map_cons, List.map_nil]); first | done | rfl | (simp only [List.length_drop, List.length_take]; rfl)) ?_
                    with_reducible refine (scan_PutNum.calls (wrap64 (2 * ((rd_T34 l0 x10_1).f2))) t117 _ A20.out).mono ?_
                    rintro e w28 ⟨rfl, hb⟩
                    refine ⟨_, rfl, ?_⟩
                    have n0_ := M.bkB zab hb
                    have n1_ := M.upS HB hb
                    clear zab HB
                    have zab := n0_
                    have HB := n1_
                    clear n0_ n1_
                    (try clear hb)
                    (try clear hb2)
                    (try clear hk)
                    (try clear hi)
                    refine hK.out _ _ ⟨(blk_cell zab.out 0).trans rfl, (blk_cell zab.out 1).trans rfl, (blk_cell zab.out 2).trans rfl, (blk_cell zab.out 3).trans rfl⟩ (fun hHeld => ?_)
                    clear hK K
                    refine norm_ (a' := ?_) ?_ ?_
                    rotate_left
                    · show Act.put _ (some 36) _ = _
                      simp only [Act.put, List.setIfInBounds_toArray, List.set_cons_zero, List.set_cons_succ, i64_w, i32_w]
                      rfl
                    refine pure_ (i := 7) (N := some 39) (v := ?_) (a' := ?_) #[true, true, true, true, true, true, true, true, false, false] rfl rfl (any_of HT_.out (by kernel_rfl)) (fun _ _ _ h => h) (Or.inl ⟨by rfl, ?_⟩) ?_ ?_
                    rotate_left
                    · intro w'
                      go_simp
                      with_reducible rfl
                    rotate_left
                    · simp only [Act.put, List.setIfInBounds_toArray, List.set_cons_zero, List.set_cons_succ, i64_w, i32_w]
                      rfl
                    refine pure_ (i := 8) (N := some 40) (v := ?_) (a' := ?_) #[true, true, true, true, true, true, true, true, true, false] rfl rfl (any_of HT_.out (by kernel_rfl)) (fun _ _ _ h => h) (Or.inl ⟨by rfl, ?_⟩) ?_ ?_
                    rotate_left
                    · intro w'
                      go_simp
                      with_reducible rfl
                    rotate_left
                    · simp only [Act.put, List.setIfInBounds_toArray, List.set_cons_zero, List.set_cons_succ, i64_w, i32_w]
                      rfl
                    refine pure_ (i := 9) (N := some 4) (v := ?_) (a' := ?_) #[true, true, true, true, true, true, true, true, true, true] rfl rfl (any_of HT_.out (by kernel_rfl)) (fun _ _ _ h => h) (Or.inl ⟨by rfl, ?_⟩) ?_ ?_
                    rotate_left
                    · intro w'
                      go_simp
                      with_reducible rfl
                    rotate_left
                    · simp only [Act.put, List.setIfInBounds_toArray, List.set_cons_zero, List.set_cons_succ, i64_w, i32_w]
                      rfl
                    refine done_ (done_of HT_.out (by kernel_rfl)) ?_
                    try go_wp2
                    go_roundg k1
                    case measure => have := HK1.out; omega
                    case rel => exact ⟨(x4_1 ++ (t117 ++ ((rd_T34 l0 x10_1).f3))), (wrap64 (x10_1 + 1)), (by first | rfl | (simp; done) | (simp [*]; done) | (simp [M.isEmpty_bne]; done)), (by first | rfl | (simp; done) | (simp [*]; done) | (simp [M.isEmpty_bne]; done)), H', ⟨by have := HK1.out; omega⟩, ⟨M.up HB⟩⟩
                  · rw [if_neg c22] at H
                    exact absurd H (by simp)
                · rw [if_neg c21] at H
                  exact absurd H (by simp)
            · rw [if_neg c6] at H
              have c6b0 : (t114 == 0) = false := beq_eq_false_iff_ne.mpr c6
              have c6b1 : (t114 != 0) = true := bne_iff_ne.mpr c6
              simp only [Option.some.injEq, Prod.mk.injEq] at H
              obtain ⟨rfl, rfl⟩ := H
              have p112 : 0 ≤ (x10_1 : Int) := of_decide_eq_true (by first | (with_reducible assumption) | assumption)
              have q112 : x10_1 < (l0.length : Int) := of_decide_eq_true (by first | (with_reducible assumption) | assumption)
              obtain ⟨ad112, e112, hx112_0, hx112_1, hx112_2, hx112_3⟩ := at_T34 HR0.out x10_1 p112 q112
              cases e112
              replace hx112_0 := (HB.out.cell (World.block_lt_of_cell? w _ hx112_0)).trans hx112_0
              replace hx112_1 := (HB.out.cell (World.block_lt_of_cell? w _ hx112_1)).trans hx112_1
              replace hx112_2 := (HB.out.cell (World.block_lt_of_cell? w _ hx112_2)).trans hx112_2
              replace hx112_3 := (HB.out.cell (World.block_lt_of_cell? w _ hx112_3)).trans hx112_3
              replace p112 := eq_true p112
              replace q112 := eq_true q112
              go_wp2_with (first | ((with_reducible refine gate_dst (N := 6) rfl ?_); refine box_event ?hg (N := 6) ?hd (cs := #[.bool false, .int .i64 0, .int .i64 0, .string (⟨#[]⟩ : ByteArray)]) (t := 34) ?hr ?_; (case hd => rfl); (case hg => rfl); (case hr => first | (go_simp; done) | (go_simp; rfl)); intro zaa hg w29 hbox hb; have n0_ := M.upS HB hb; have n1_ := Aside0.mk (hbox); have n2_ := M.upG HB hg; have n3_ := M.upG HB hg; clear HB; have HB := n0_; have zab := n1_; have zac := n2_; have zad := n3_; clear n0_ n1_ n2_ n3_; clear hb hbox hg; have zaK : w29.cell? ⟨zaa, 0, none⟩ = some (.bool false) := (blk_cell zab.out 0).trans rfl; have zaL : w29.cell? ⟨zaa, 1, none⟩ = some (.int .i64 0) := (blk_cell zab.out 1).trans rfl; have zaM : w29.cell? ⟨zaa, 2, none⟩ = some (.int .i64 0) := (blk_cell zab.out 2).trans rfl; have zaN : w29.cell? ⟨zaa, 3, none⟩ = some (.string (⟨#[]⟩ : ByteArray)) := (blk_cell zab.out 3).trans rfl; have zaO := blk_frozen zab.out 0; have zaP := blk_frozen zab.out 1; have zaQ := blk_frozen zab.out 2; have zaR := blk_frozen zab.out 3) | ((with_reducible refine gate_callee (f := 14) rfl ?_); refine M.goes (some 15) Try.func14 #[.agg #[.bool ((rd_T34 l0 x10_1).f0), .int .i64 ((rd_T34 l0 x10_1).f1), .int .i64 ((rd_T34 l0 x10_1).f2), .string ((rd_T34 l0 x10_1).f3)]] rfl ?_; (with_reducible refine (delta_Check.calls ((rd_T34 l0 x10_1).f0) ((rd_T34 l0 x10_1).f1) ((rd_T34 l0 x10_1).f2) ((rd_T34 l0 x10_1).f3) t114 _ A5.out).mono ?_); rintro e w31 ⟨rfl, hb⟩; refine ⟨_, rfl, ?_⟩; have n0_ := Aside0.mk (blk_below (g := zaa) (o := .cells #[.bool ((rd_T34 l0 x10_1).f0), .int .i64 ((rd_T34 l0 x10_1).f1), .int .i64 ((rd_T34 l0 x10_1).f2), .string ((rd_T34 l0 x10_1).f3)] 34 (0, 0)) (by (with_reducible repeat (first | refine blk_drewN ?_ _ | refine blk_drew ?_ | refine blk_alloc ?_ _)); refine blk_put (cs := #[.bool ((rd_T34 l0 x10_1).f0), .int .i64 ((rd_T34 l0 x10_1).f1), .int .i64 ((rd_T34 l0 x10_1).f2), .string (⟨#[]⟩ : ByteArray)]) ?_ 3 _ rfl; (with_reducible repeat (first | refine blk_drewN ?_ _ | refine blk_drew ?_ | refine blk_alloc ?_ _)); refine blk_put (cs := #[.bool ((rd_T34 l0 x10_1).f0), .int .i64 ((rd_T34 l0 x10_1).f1), .int .i64 0, .string (⟨#[]⟩ : ByteArray)]) ?_ 2 _ rfl; (with_reducible repeat (first | refine blk_drewN ?_ _ | refine blk_drew ?_ | refine blk_alloc ?_ _)); refine blk_put (cs := #[.bool ((rd_T34 l0 x10_1).f0), .int .i64 0, .int .i64 0, .string (⟨#[]⟩ : ByteArray)]) ?_ 1 _ rfl; (with_reducible repeat (first | refine blk_drewN ?_ _ | refine blk_drew ?_ | refine blk_alloc ?_ _)); refine blk_put (cs := #[.bool false, .int .i64 0, .int .i64 0, .string (⟨#[]⟩ : ByteArray)]) ?_ 0 _ rfl; (with_reducible repeat (first | refine blk_drewN ?_ _ | refine blk_drew ?_ | refine blk_alloc ?_ _)); exact zab.out) hb); have n1_ := M.upS HB hb; clear zab HB; have zab := n0_; have HB := n1_; clear n0_ n1_; (try clear hb)))
              go_ret2
              exact M.fin (M.up HB)
          · rw [if_neg c4] at H
            exact absurd H (by simp)
        · rw [if_neg c3] at H
          exact absurd H (by simp)
      · rw [if_neg c2] at H
        have c2b0 : decide (x10_1 < (l0.length : Int)) = false := decide_eq_false c2
        clear c2
        simp only [Option.some.injEq, Prod.mk.injEq] at H
        obtain ⟨rfl, rfl⟩ := H
        go_wp2
        go_ret2
        exact M.fin (M.up HB)

-- this session's own plain form
def delta_Put.pc (x : S34) : M.Pc := (x.f0, x.f1, x.f2, x.f3)
def delta_Put.f (l : List S34) : Option (ByteArray × Int) :=
  if l.length ≤ 1000000000 then some (match M.dput (l.map delta_Put.pc) with | some b => (M.sb b, 0) | none => (⟨#[]⟩, 2)) else none
theorem delta_Put.loop (l : List S34) (hc : l.length ≤ 1000000000) (d : Nat) : ∀ (i : Nat) (acc : ByteArray), i + d = l.length → acc.size + M.psum ((l.drop i).map delta_Put.pc) ≤ 9223372036854775000 →
    delta_Put_p.l0 (d + 1) acc l (l.length : Int) (i : Int) = some (match M.dput ((l.drop i).map delta_Put.pc) with | some b => (acc ++ M.sb b, 0) | none => (⟨#[]⟩, 2)) := by
  induction d with
  | zero =>
    intro i acc hi _
    rw [delta_Put_p.l0, if_neg (by omega), List.drop_of_length_le (by omega)]
    rw [List.map_nil, M.dput_nil]
    simp only
    rw [show acc ++ M.sb [] = acc from M.bs_inj (by rw [M.bs_append, M.bs_sb, List.append_nil])]
  | succ d ih =>
    intro i acc hi hz
    have hlt : i < l.length := by omega
    have hrd : rd_T34 l (i : Int) = l[i] := by simp [rd_T34, List.getD, hlt]
    rw [delta_Put_p.l0, if_pos (by omega), if_pos (by omega), if_pos (by omega), hrd]
    rw [List.drop_eq_getElem_cons hlt, List.map_cons] at hz ⊢
    have ih := ih (i + 1)
    rw [show ((i + 1 : Nat) : Int) = (i : Int) + 1 from by omega] at ih
    rw [M.wrap64_id (i := (i : Int) + 1) (by omega) (by omega)]
    generalize l[i] = x at hz ⊢
    obtain ⟨c, a, n, o⟩ := x
    have hps : M.psum (delta_Put.pc ⟨c, a, n, o⟩ :: (l.drop (i + 1)).map delta_Put.pc) = min o.size 65536 + 40 + M.psum ((l.drop (i + 1)).map delta_Put.pc) := rfl
    rw [hps] at hz
    show (delta_Check.f c a n o).bind _ = _
    rw [delta_Check.f, Option.bind_some]
    by_cases hp : M.pok c a n o = true
    · have hk : M.pk (delta_Put.pc ⟨c, a, n, o⟩) = true := hp
      have hl := M.pok_len hp
      rw [if_pos hp, if_pos rfl, M.dput_ok hk]
      have fin : ∀ A : ByteArray, A.size + M.psum ((l.drop (i + 1)).map delta_Put.pc) ≤ 9223372036854775000 → A = acc ++ M.sb (M.pput (delta_Put.pc ⟨c, a, n, o⟩)) →
          delta_Put_p.l0 (d + 1) A l (l.length : Int) ((i : Int) + 1) = some (match (M.dput ((l.drop (i + 1)).map delta_Put.pc)).map (M.pput (delta_Put.pc ⟨c, a, n, o⟩) ++ ·) with | some b => (acc ++ M.sb b, 0) | none => (⟨#[]⟩, 2)) := by
        intro A hA he
        rw [ih A (by omega) hA]
        cases M.dput ((l.drop (i + 1)).map delta_Put.pc) with
        | none => rfl
        | some b =>
          simp only [Option.map_some]
          rw [he]
          congr 2
          apply M.bs_inj
          simp only [M.bs_append, M.bs_sb, List.append_assoc]
      cases c with
      | true =>
        have hc2 := M.pok_copy hp
        have v1 := M.vb_le (2 * n + 1).toNat (by omega)
        have v2 := M.vb_le a.toNat (by omega)
        show (if true = true then _ else _) = _
        rw [if_pos rfl]
        show (scan_PutNum.f (wrap64 (wrap64 (2 * n) + 1))).bind _ = _
        rw [M.wrap64_id (i := 2 * n) (by omega) (by omega), M.wrap64_id (i := 2 * n + 1) (by omega) (by omega), scan_PutNum.f, if_pos (by omega), Option.bind_some]
        show (scan_PutNum.f a).bind _ = _
        rw [scan_PutNum.f, if_pos (by omega), Option.bind_some, if_pos (by rw [M.size_sb, M.size_sb]; omega), if_pos (by rw [M.size_append, M.size_sb, M.size_sb]; omega)]
        refine fin _ (by simp only [M.size_append, M.size_sb]; omega) (M.bs_inj ?_)
        simp only [M.bs_append, M.bs_sb, M.pput, delta_Put.pc, if_true, List.append_assoc]
      | false =>
        have hc2 := M.pok_own hp
        have v1 := M.vb_le (2 * n).toNat (by omega)
        show (if false = true then _ else _) = _
        rw [if_neg (show ¬ false = true by simp)]
        show (scan_PutNum.f (wrap64 (2 * n))).bind _ = _
        rw [M.wrap64_id (i := 2 * n) (by omega) (by omega), scan_PutNum.f, if_pos (by omega), Option.bind_some]
        rw [if_pos (by show _ + o.size ≤ _; rw [M.size_sb]; omega)]
        rw [if_pos (by show _ + (_ ++ o).size ≤ _; rw [M.size_append, M.size_sb]; omega)]
        refine fin _ (by show (_ ++ (_ ++ o)).size + _ ≤ _; simp only [M.size_append, M.size_sb]; omega) (M.bs_inj ?_)
        simp only [M.bs_append, M.bs_sb, M.pput, delta_Put.pc, Bool.false_eq_true, if_false, List.append_assoc]
    · rw [if_neg hp, if_neg (by decide), M.dput_no (p := delta_Put.pc ⟨c, a, n, o⟩) hp]
theorem delta_Put.nil_app (s : ByteArray) : (⟨#[]⟩ : ByteArray) ++ s = s := M.bs_inj (by rw [M.bs_append]; rfl)
theorem delta_Put.ev (l : List S34) (r : ByteArray × Int) (h : delta_Put.f l = some r) : ∃ k, delta_Put_p.f k l = some r := by
  unfold delta_Put.f at h
  split at h
  case isFalse => cases h
  case isTrue hh =>
    refine ⟨l.length + 1, ?_⟩
    have := delta_Put.loop l hh l.length 0 ⟨#[]⟩ (by omega) (by have q := M.psum_le (l.map delta_Put.pc); rw [List.length_map] at q; show 0 + _ ≤ _; rw [Nat.zero_add, List.drop_zero]; omega)
    rw [List.drop_zero] at this
    unfold delta_Put_p.f
    rw [show (0 : Int) = ((0 : Nat) : Int) from rfl, this, ← h]
    cases M.dput (l.map delta_Put.pc) with
    | none => rfl
    | some b => simp only [delta_Put.nil_app]
theorem delta_Put.calls (A0 : Option Addr) (c0 : Nat) (l0 : List (S34)) (r1 : ByteArray) (r2 : Int) (w : World) (hr0 : Kd.C k34 w A0 l0.length l0) (hc0 : l0.length ≤ c0) (h : delta_Put.f l0 = some (r1, r2)) :
    Calls Try.prog 16 #[.slice A0 l0.length c0] w fun e w' => e = .returned (.tuple #[.string r1, .int .i64 r2]) ∧ Below w.heap.size w w' := by
  obtain ⟨k, hk⟩ := delta_Put.ev _ _ h
  exact delta_Put_p.calls (k := k) (w := w) (h := hk) (hr0 := hr0) (hc0 := hc0)

/-! ### delta_Encode_p: function 10 -/
def delta_Encode_p.j0 : Nat → ByteArray → ByteArray → Bool → Option (ByteArray × Int)
  | 0, _, _, _ => none
  | k + 1, x0, x1, x13 => if x13 = true then (some ((⟨#[]⟩ : ByteArray), 5)) else ((delta_Pieces.f x0 x1).bind fun t118 => ((delta_Put.f t118).bind fun bt121 => (some (bt121.1, bt121.2))))
def delta_Encode_p.f (k : Nat) (a0 : ByteArray) (a1 : ByteArray) : Option (ByteArray × Int) := if (a1.size : Int) > 65536 then (delta_Encode_p.j0 k a0 a1 true) else (delta_Encode_p.j0 k a0 a1 (decide ((a0.size : Int) > 65536)))
theorem delta_Encode_p.mono_l : ∀ k, (∀ y0 y1 y2, LeO (delta_Encode_p.j0 k y0 y1 y2) (delta_Encode_p.j0 (k + 1) y0 y1 y2))
  | 0 => fun _ _ _ r h => by simp [delta_Encode_p.j0] at h
  | k + 1 => by
    have ih0 := delta_Encode_p.mono_l k
    · intro y0 y1 y2
      unfold delta_Encode_p.j0
      repeat' first
      | (with_reducible exact ih0 _ _ _)
      | (with_reducible exact LeO.refl _)
      | (with_reducible exact LeO.none _)
      | (with_reducible refine LeO.ite ?_ ?_)
      | (with_reducible refine LeO.bind ?_ (fun _ => ?_))
      | exact ih0 _ _ _
      | exact LeO.none _
      | refine LeO.ite ?_ ?_
      | refine LeO.bind ?_ (fun _ => ?_)
theorem delta_Encode_p.mono : ∀ a0 a1 k, LeO (delta_Encode_p.f k a0 a1) (delta_Encode_p.f (k + 1) a0 a1) := by
  intro a0 a1 k
  have ih0 := delta_Encode_p.mono_l k
  unfold delta_Encode_p.f
  repeat' first
      | (with_reducible exact ih0 _ _ _)
      | (with_reducible exact LeO.refl _)
      | (with_reducible exact LeO.none _)
      | (with_reducible refine LeO.ite ?_ ?_)
      | (with_reducible refine LeO.bind ?_ (fun _ => ?_))
      | exact ih0 _ _ _
      | exact LeO.none _
      | refine LeO.ite ?_ ?_
      | refine LeO.bind ?_ (fun _ => ?_)
set_option maxHeartbeats 8000000 in
set_option maxRecDepth 100000 in
theorem delta_Encode_p.calls (k : Nat) (a0 : ByteArray) (a1 : ByteArray) (r1 : ByteArray) (r2 : Int) (w : World) (h : delta_Encode_p.f k a0 a1 = some (r1, r2)) :
    Calls Try.prog 10 #[.string a0, .string a1] w fun e w' => e = .returned (.tuple #[.string r1, .int .i64 r2]) ∧ Below w.heap.size w w' := by
  have HB := Aside0.mk (Below.refl w.heap.size w)
  have H : (if (a1.size : Int) > 65536 then (delta_Encode_p.j0 k a0 a1 true) else (delta_Encode_p.j0 k a0 a1 (decide ((a0.size : Int) > 65536)))) = some (r1, r2) := h
  clear h
  have HC3 := Aside0.mk H
  clear H
  go_enter Try.func10, Try.ntmps10
  go_upto_region 1 with (fail)
  go_cut [13] (fun v13 wc => ∃ (kq : Nat) (x13_2 : Bool), v13 = .bool x13_2 ∧ Aside0 (delta_Encode_p.j0 kq a0 a1 x13_2 = some (r1, r2)) ∧ Aside0 (kq ≤ k) ∧ Aside0 (Below w.heap.size w wc))
  case first =>
    have H := HC3.out
    clear HC3
    by_cases c4 : (a1.size : Int) > 65536
    · rw [if_pos c4] at H
      have c4b0 : decide (65536 < (a1.size : Int)) = true := decide_eq_true c4
      have c4b1 : decide (65536 < a1.size) = true := decide_eq_true (by omega)
      clear c4
      (first | rw [c4b0] | (simp only [i64_w, i32_w]; rw [c4b0]) | skip)
      have H' := Aside0.mk H
      clear H
      go_wp2
      go_meet
      case rel => exact ⟨_, (true), (by first | rfl | (simp; done) | (simp [*]; done) | (simp [M.isEmpty_bne]; done)), H', ⟨by first | omega | exact Nat.le_refl _⟩, ⟨M.up HB⟩⟩
    · rw [if_neg c4] at H
      have c4b0 : decide (65536 < (a1.size : Int)) = false := decide_eq_false c4
      have c4b1 : decide (65536 < a1.size) = false := decide_eq_false (by omega)
      clear c4
      (first | rw [c4b0] | (simp only [i64_w, i32_w]; rw [c4b0]) | skip)
      have H' := Aside0.mk H
      clear H
      go_wp2
      go_meet
      case rel => exact ⟨_, (decide ((a0.size : Int) > 65536)), (by first | rfl | (simp; done) | (simp [*]; done) | (simp [M.isEmpty_bne]; done)), H', ⟨by first | omega | exact Nat.le_refl _⟩, ⟨M.up HB⟩⟩
  case rest =>
    clear HC3
    try clear c1
    try clear p2
    try clear c4
    try clear c4b0
    try clear c4b1
    obtain ⟨kq, x13_2, rfl, HA, HJ2, HB⟩ := hcut
    cases kq with
    | zero => exact absurd HA.out (by simp [delta_Encode_p.j0])
    | succ kj2 =>
      have H := HA.out
      clear HA
      simp only [delta_Encode_p.j0] at H
      by_cases c5 : x13_2 = true
      · subst c5
        have H1 : (some ((⟨#[]⟩ : ByteArray), 5)) = some (r1, r2) := by rw [if_pos rfl] at H; exact H
        clear H
        have H := H1
        clear H1
        simp only [Option.some.injEq, Prod.mk.injEq] at H
        obtain ⟨rfl, rfl⟩ := H
        go_wp2
        go_ret2
        exact M.fin (M.up HB)
      · replace c5 := Bool.eq_false_iff.mpr c5
        subst c5
        have H1 : ((delta_Pieces.f a0 a1).bind fun t118 => ((delta_Put.f t118).bind fun bt121 => (some (bt121.1, bt121.2)))) = some (r1, r2) := by rw [if_neg (show ¬ (false = true) by decide)] at H; exact H
        clear H
        have H := H1
        clear H1
        replace H := Option.bind_eq_some_iff.mp H
        obtain ⟨t118, A60, H⟩ := H
        replace H : ((delta_Put.f t118).bind fun bt121 => (some (bt121.1, bt121.2))) = some (r1, r2) := H
        have A6 := Aside0.mk A60
        clear A60
        replace H := Option.bind_eq_some_iff.mp H
        obtain ⟨⟨t121, t122⟩, A70, H⟩ := H
        replace H : (some (t121, t122)) = some (r1, r2) := H
        have A7 := Aside0.mk A70
        clear A70
        simp only [Option.some.injEq, Prod.mk.injEq] at H
        obtain ⟨rfl, rfl⟩ := H
        go_wp2_with (first | ((with_reducible refine gate_callee (f := 12) rfl ?_); refine M.goes (some 16) Try.func12 #[.string a0, .string a1] rfl ?_; (with_reducible refine (delta_Pieces.calls a0 a1 t118 _ A6.out).mono ?_); rintro e w8 ⟨v119, rfl, ho0, hb⟩; refine ⟨_, rfl, ?_⟩; have n0_ := Aside0.mk (Kd.R_lower ho0 (below_size (M.up HB))); have n1_ := M.upS HB hb; clear HB; have HO120 := n0_; have HB := n1_; clear n0_ n1_; (try clear hb); (try clear ho0); obtain ⟨Ao9, co9, eo9⟩ := Kd.R_slice HO120.out; subst eo9) | ((with_reducible refine gate_callee (f := 16) rfl ?_); refine M.goes (some 17) Try.func16 #[.slice Ao9 t118.length co9] rfl ?_; (with_reducible refine (delta_Put.calls _ _ t118 t121 t122 _ ?side1 ?side2 A7.out).mono ?_); (case side1 => repeat (first | exact (Kd.R_reads' HO120.out).2.2 | (with_reducible refine Kd.C_alloc ?_ _) | (with_reducible refine Kd.C_drewN ?_ _) | (with_reducible refine Kd.C_drew ?_))); (case side2 => exact (Kd.R_reads' HO120.out).2.1); rintro e w10 ⟨rfl, hb⟩; refine ⟨_, rfl, ?_⟩; have n0_ := M.roB HO120 hb; have n1_ := M.upS HB hb; clear HO120 HB; have HO120 := n0_; have HB := n1_; clear n0_ n1_; (try clear hb)))
        go_ret2
        exact M.fin (M.up HB)

-- this session's own plain form
def delta_Encode.f (a b : ByteArray) : Option (ByteArray × Int) := if b.size ≤ 65536 ∧ a.size ≤ 65536 then (delta_Pieces.f a b).bind fun l => delta_Put.f l else some (⟨#[]⟩, 5)
theorem delta_Encode.ev (a b : ByteArray) (r : ByteArray × Int) (h : delta_Encode.f a b = some r) : ∃ k, delta_Encode_p.f k a b = some r := by
  refine ⟨0 + 1, ?_⟩
  rw [← h]
  have hb : ∀ x : Option (ByteArray × Int), (x.bind fun t => some (t.1, t.2)) = x := by intro x; cases x <;> rfl
  unfold delta_Encode_p.f delta_Encode.f
  by_cases h1 : (b.size : Int) > 65536
  · rw [if_pos h1, delta_Encode_p.j0, if_pos rfl, if_neg (by omega)]
  · rw [if_neg h1, delta_Encode_p.j0]
    by_cases h2 : (a.size : Int) > 65536
    · rw [if_pos (decide_eq_true h2), if_neg (by omega)]
    · rw [if_neg (by simp; omega), if_pos (by omega)]
      simp only [hb]
theorem delta_Encode.calls (a0 : ByteArray) (a1 : ByteArray) (r1 : ByteArray) (r2 : Int) (w : World) (h : delta_Encode.f a0 a1 = some (r1, r2)) :
    Calls Try.prog 10 #[.string a0, .string a1] w fun e w' => e = .returned (.tuple #[.string r1, .int .i64 r2]) ∧ Below w.heap.size w w' := by
  obtain ⟨k, hk⟩ := delta_Encode.ev _ _ _ h
  exact delta_Encode_p.calls (k := k) (w := w) (h := hk)

/-! ### pleachlaw11_few_p: function 13 -/
def pleachlaw11_few_p.l0 : Nat → List (S34) → Int → Int → Option (Bool)
  | 0, _, _, _ => none
  | k + 1, x0, x3, x4 => if x4 < (x0.length : Int) then (if x4 ≤ 60 then (if 0 ≤ x4 then (pleachlaw11_few_p.l0 k x0 (wrap64 (x3 + (mn (((rd_T34 x0 x4).f3).size : Int) 10000))) (wrap64 (x4 + 1))) else (none)) else (if (x0.length : Int) ≤ 60 then (some (decide (x3 ≤ 10000))) else (some false))) else (if (x0.length : Int) ≤ 60 then (some (decide (x3 ≤ 10000))) else (some false))
def pleachlaw11_few_p.f (k : Nat) (l0 : List (S34)) : Option (Bool) := pleachlaw11_few_p.l0 k l0 0 0
theorem pleachlaw11_few_p.mono_l : ∀ k, (∀ y0 y1 y2, LeO (pleachlaw11_few_p.l0 k y0 y1 y2) (pleachlaw11_few_p.l0 (k + 1) y0 y1 y2))
  | 0 => fun _ _ _ r h => by simp [pleachlaw11_few_p.l0] at h
  | k + 1 => by
    have ih0 := pleachlaw11_few_p.mono_l k
    · intro y0 y1 y2
      unfold pleachlaw11_few_p.l0
      repeat' first
      | (with_reducible exact ih0 _ _ _)
      | (with_reducible exact LeO.refl _)
      | (with_reducible exact LeO.none _)
      | (with_reducible refine LeO.ite ?_ ?_)
      | (with_reducible refine LeO.bind ?_ (fun _ => ?_))
      | exact ih0 _ _ _
      | exact LeO.none _
      | refine LeO.ite ?_ ?_
      | refine LeO.bind ?_ (fun _ => ?_)
theorem pleachlaw11_few_p.mono : ∀ a0 k, LeO (pleachlaw11_few_p.f k a0) (pleachlaw11_few_p.f (k + 1) a0) := by
  intro a0 k
  have ih0 := pleachlaw11_few_p.mono_l k
  unfold pleachlaw11_few_p.f
  repeat' first
      | (with_reducible exact ih0 _ _ _)
      | (with_reducible exact LeO.refl _)
      | (with_reducible exact LeO.none _)
      | (with_reducible refine LeO.ite ?_ ?_)
      | (with_reducible refine LeO.bind ?_ (fun _ => ?_))
      | exact ih0 _ _ _
      | exact LeO.none _
      | refine LeO.ite ?_ ?_
      | refine LeO.bind ?_ (fun _ => ?_)
set_option maxHeartbeats 8000000 in
set_option maxRecDepth 100000 in
theorem pleachlaw11_few_p.calls (k : Nat) (A0 : Option Addr) (c0 : Nat) (l0 : List (S34)) (r : Bool) (w : World) (hr0 : Kd.C k34 w A0 l0.length l0) (hc0 : l0.length ≤ c0) (h : pleachlaw11_few_p.f k l0 = some r) :
    Calls Try.prog 13 #[.slice A0 l0.length c0] w fun e w' => e = .returned (.bool r) ∧ Below w.heap.size w w' := by
  have HR0 := Aside0.mk hr0
  have HC0 := Aside0.mk hc0
  clear hr0 hc0
  have HB := Aside0.mk (Below.refl w.heap.size w)
  have H : (pleachlaw11_few_p.l0 k l0 0 0) = some r := h
  clear h
  have H' := Aside0.mk H
  clear H
  go_enter Try.func13, Try.ntmps13
  go_wp2
  go_loopg [3, 4] k (fun kq v3 v4 w' => ∃ (x3_1 : Int) (x4_1 : Int), v3 = .int .i64 x3_1 ∧ v4 = .int .i64 x4_1 ∧ Aside0 (pleachlaw11_few_p.l0 kq l0 x3_1 x4_1 = some r) ∧ Aside0 (kq ≤ k) ∧ Aside0 (Below w.heap.size w w'))
  case atStart => exact ⟨(0), (0), (by first | rfl | (simp; done) | (simp [*]; done) | (simp [M.isEmpty_bne]; done)), (by first | rfl | (simp; done) | (simp [*]; done) | (simp [M.isEmpty_bne]; done)), H', ⟨Nat.le_refl _⟩, ⟨M.up HB⟩⟩
  case round =>
    clear H'
    try clear c1
    obtain ⟨x3_1, x4_1, rfl, rfl, HA, HK1, HB⟩ := hrel
    cases gk with
    | zero => exact absurd HA.out (by simp [pleachlaw11_few_p.l0])
    | succ k1 =>
      have H := HA.out
      clear HA
      simp only [pleachlaw11_few_p.l0] at H
      by_cases c2 : x4_1 < (l0.length : Int)
      · rw [if_pos c2] at H
        have c2b0 : decide (x4_1 < (l0.length : Int)) = true := decide_eq_true c2
        clear c2
        by_cases c3 : x4_1 ≤ 60
        · rw [if_pos c3] at H
          have c3b0 : decide (x4_1 ≤ 60) = true := decide_eq_true c3
          clear c3
          by_cases c4 : 0 ≤ x4_1
          · rw [if_pos c4] at H
            have c4b0 : decide (0 ≤ x4_1) = true := decide_eq_true c4
            clear c4
            obtain ⟨ji5, hji5⟩ : ∃ j_ : Int, (mn (((rd_T34 l0 x4_1).f3).size : Int) 10000) = j_ := ⟨_, rfl⟩
            replace H : (pleachlaw11_few_p.l0 k1 l0 (wrap64 (x3_1 + (ji5))) (wrap64 (x4_1 + 1))) = some r := by first | (rw [hji5] at H; exact H) | (simp only [hji5] at H ⊢; exact H)
            have hji5_ : (if 10000 < (((rd_T34 l0 x4_1).f3).size : Int) then 10000 else (((rd_T34 l0 x4_1).f3).size : Int)) = ji5 := hji5
            have H' := Aside0.mk H
            clear H
            have p123 : 0 ≤ (x4_1 : Int) := of_decide_eq_true (by first | (with_reducible assumption) | assumption)
            have q123 : x4_1 < (l0.length : Int) := of_decide_eq_true (by first | (with_reducible assumption) | assumption)
            obtain ⟨ad123, e123, hx123_0, hx123_1, hx123_2, hx123_3⟩ := at_T34 HR0.out x4_1 p123 q123
            cases e123
            replace hx123_0 := (HB.out.cell (World.block_lt_of_cell? w _ hx123_0)).trans hx123_0
            replace hx123_1 := (HB.out.cell (World.block_lt_of_cell? w _ hx123_1)).trans hx123_1
            replace hx123_2 := (HB.out.cell (World.block_lt_of_cell? w _ hx123_2)).trans hx123_2
            replace hx123_3 := (HB.out.cell (World.block_lt_of_cell? w _ hx123_3)).trans hx123_3
            replace p123 := eq_true p123
            replace q123 := eq_true q123
            go_wp2
            go_roundg k1
            case measure => have := HK1.out; omega
            case rel => exact ⟨(wrap64 (x3_1 + (ji5))), (wrap64 (x4_1 + 1)), (by first | rfl | (simp; done) | (simp only [← hji5] <;> (first | rfl | simp)) | (simp [*]; done)), (by first | rfl | (simp; done) | (simp [*]; done) | (simp [M.isEmpty_bne]; done)), H', ⟨by have := HK1.out; omega⟩, ⟨M.up HB⟩⟩
          · rw [if_neg c4] at H
            exact absurd H (by simp)
        · rw [if_neg c3] at H
          have c3b0 : decide (x4_1 ≤ 60) = false := decide_eq_false c3
          clear c3
          by_cases c6 : (l0.length : Int) ≤ 60
          · rw [if_pos c6] at H
            have c6b0 : decide ((l0.length : Int) ≤ 60) = true := decide_eq_true c6
            have c6b1 : decide (l0.length ≤ 60) = true := decide_eq_true (by omega)
            clear c6
            obtain rfl := Option.some.inj H
            go_wp2
            go_ret
            exact M.fin (M.up HB)
          · rw [if_neg c6] at H
            have c6b0 : decide ((l0.length : Int) ≤ 60) = false := decide_eq_false c6
            have c6b1 : decide (l0.length ≤ 60) = false := decide_eq_false (by omega)
            clear c6
            obtain rfl := Option.some.inj H
            go_wp2
            go_ret
            exact M.fin (M.up HB)
      · rw [if_neg c2] at H
        have c2b0 : decide (x4_1 < (l0.length : Int)) = false := decide_eq_false c2
        clear c2
        by_cases c7 : (l0.length : Int) ≤ 60
        · rw [if_pos c7] at H
          have c7b0 : decide ((l0.length : Int) ≤ 60) = true := decide_eq_true c7
          have c7b1 : decide (l0.length ≤ 60) = true := decide_eq_true (by omega)
          clear c7
          obtain rfl := Option.some.inj H
          go_wp2
          go_ret
          exact M.fin (M.up HB)
        · rw [if_neg c7] at H
          have c7b0 : decide ((l0.length : Int) ≤ 60) = false := decide_eq_false c7
          have c7b1 : decide (l0.length ≤ 60) = false := decide_eq_false (by omega)
          clear c7
          obtain rfl := Option.some.inj H
          go_wp2
          go_ret
          exact M.fin (M.up HB)

-- this session's own plain form
def pleachlaw11_few.sum_ : List S34 → Nat
  | [] => 0
  | x :: l => min x.f3.size 10000 + pleachlaw11_few.sum_ l
def pleachlaw11_few.f (l : List S34) : Option Bool := some (decide (l.length ≤ 60) && decide (pleachlaw11_few.sum_ (l.take 61) ≤ 10000))
theorem pleachlaw11_few.sum_app (a b : List S34) : pleachlaw11_few.sum_ (a ++ b) = pleachlaw11_few.sum_ a + pleachlaw11_few.sum_ b := by
  induction a with
  | nil => simp [pleachlaw11_few.sum_]
  | cons x a ih => rw [List.cons_append, pleachlaw11_few.sum_, pleachlaw11_few.sum_, ih, Nat.add_assoc]
theorem pleachlaw11_few.sum_le (l : List S34) : pleachlaw11_few.sum_ l ≤ 10000 * l.length := by
  induction l with
  | nil => simp [pleachlaw11_few.sum_]
  | cons x l ih => rw [pleachlaw11_few.sum_, List.length_cons]; omega
theorem pleachlaw11_few.loop (l : List S34) (d : Nat) : ∀ i : Nat, i + d = 61 →
    pleachlaw11_few_p.l0 (d + 1) l ((pleachlaw11_few.sum_ (l.take i) : Nat) : Int) (i : Int) = some (decide (l.length ≤ 60) && decide (pleachlaw11_few.sum_ (l.take 61) ≤ 10000)) := by
  have fin : ∀ i, l.take i = l.take 61 → (if (l.length : Int) ≤ 60 then some (decide (((pleachlaw11_few.sum_ (l.take i) : Nat) : Int) ≤ 10000)) else some false) = some (decide (l.length ≤ 60) && decide (pleachlaw11_few.sum_ (l.take 61) ≤ 10000)) := by
    intro i hi
    rw [hi]
    by_cases h : l.length ≤ 60
    · rw [if_pos (by omega), decide_eq_true h, Bool.true_and]
      congr 1
      apply decide_eq_decide.2; omega
    · rw [if_neg (by omega), decide_eq_false h, Bool.false_and]
  induction d with
  | zero =>
    intro i hi
    obtain rfl : i = 61 := by omega
    rw [pleachlaw11_few_p.l0]
    by_cases h : ((61 : Nat) : Int) < (l.length : Int)
    · rw [if_pos h, if_neg (by omega)]; exact fin 61 rfl
    · rw [if_neg h]; exact fin 61 rfl
  | succ d ih =>
    intro i hi
    rw [pleachlaw11_few_p.l0]
    by_cases h : (i : Int) < (l.length : Int)
    · have hlt : i < l.length := by omega
      have hrd : rd_T34 l (i : Int) = l[i] := by simp [rd_T34, List.getD, hlt]
      have hsum : pleachlaw11_few.sum_ (l.take (i + 1)) = pleachlaw11_few.sum_ (l.take i) + min l[i].f3.size 10000 := by
        rw [List.take_succ_eq_append_getElem hlt, pleachlaw11_few.sum_app]; rfl
      have hle := pleachlaw11_few.sum_le (l.take i)
      have hlen : (l.take i).length ≤ i := List.length_take_le _ _
      have hi60 : i ≤ 60 := by omega
      have hn := ih (i + 1) (by omega)
      rw [if_pos h, if_pos (by omega), if_pos (by omega), hrd]
      have e1 : wrap64 (((pleachlaw11_few.sum_ (l.take i) : Nat) : Int) + mn (l[i].f3.size : Int) 10000) = ((pleachlaw11_few.sum_ (l.take (i + 1)) : Nat) : Int) := by
        have : mn (l[i].f3.size : Int) 10000 = ((min l[i].f3.size 10000 : Nat) : Int) := by
          rcases Nat.le_total l[i].f3.size 10000 with z | z
          · rw [M.mn_le (by omega)]; omega
          · rw [M.mn_ge (by omega)]; omega
        rw [this, hsum, M.wrap64_id (by omega) (by omega)]; omega
      rw [e1, M.wrap64_id (i := (i : Int) + 1) (by omega) (by omega)]
      exact hn
    · rw [if_neg h]
      exact fin i (by rw [List.take_of_length_le (by omega), List.take_of_length_le (by omega)])
theorem pleachlaw11_few.ev (l : List S34) (r : Bool) (h : pleachlaw11_few.f l = some r) : ∃ k, pleachlaw11_few_p.f k l = some r := by
  refine ⟨61 + 1, ?_⟩
  unfold pleachlaw11_few_p.f
  rw [← h]
  exact pleachlaw11_few.loop l 61 0 rfl
theorem pleachlaw11_few.calls (A0 : Option Addr) (c0 : Nat) (l0 : List (S34)) (r : Bool) (w : World) (hr0 : Kd.C k34 w A0 l0.length l0) (hc0 : l0.length ≤ c0) (h : pleachlaw11_few.f l0 = some r) :
    Calls Try.prog 13 #[.slice A0 l0.length c0] w fun e w' => e = .returned (.bool r) ∧ Below w.heap.size w w' := by
  obtain ⟨k, hk⟩ := pleachlaw11_few.ev _ _ h
  exact pleachlaw11_few_p.calls (k := k) (w := w) (h := hk) (hr0 := hr0) (hc0 := hc0)

end Go.Proofs.Ytadpicphohobbaa.EDeltaBack
