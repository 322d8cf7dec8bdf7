-- Written by this session's own program (wip/tools/ext.py) for this claim; Lean checks it.
import Derived.Test.YtccppdpmfegndaaEChunkTellsx0
import Derived.Test.YtccppdpmfegndaaEChunkTellsx1
namespace Go.Proofs.Ytccppdpmfegndaa.EChunkTells
open Go.RowKit Go.Proofs.YtccppdpmfegndaaW.PrintWords Go.Proofs.YtccppdpmfegndaaW.PrintLast Go.Proofs.YtccppdpmfegndaaW.PrintMore
attribute [local go_sem] M.run_leq M.run_gtr M.run_geq max2_int min2_int max_two min_two max_three min_three max_four min_four   -- for this text's walks alone
set_option linter.unusedVariables false
set_option linter.unusedSimpArgs false

attribute [local go_sem high] eqA29
/-! ### pleachref19_Same: function 13 -/
mutual
def pleachref19_Same.j0 : Nat → Bool → Int → List (S29) → List Int → Int → List (S29) → List Int → Option (Bool)
  | 0, _, _, _, _, _, _, _ => none
  | k + 1, x29, zaa, zab, zac, zad, zae, zaf => if x29 = true then (some false) else (pleachref19_Same.l0 k 0 zaa zab zac zad zae zaf)
def pleachref19_Same.l0 : Nat → Int → Int → List (S29) → List Int → Int → List (S29) → List Int → Option (Bool)
  | 0, _, _, _, _, _, _, _ => none
  | k + 1, x5, zaa, zab, zac, zad, zae, zaf => if x5 < (zab.length : Int) then (if 0 ≤ x5 then (if x5 < (zae.length : Int) then (if (!((((rd_T29 zab x5).f0).toList) == (((rd_T29 zae x5).f0).toList)) || (!((((rd_T29 zab x5).f1).toList) == (((rd_T29 zae x5).f1).toList)))) = true then (some false) else (pleachref19_Same.l0 k (wrap64 (x5 + 1)) zaa zab zac zad zae zaf)) else (none)) else (none)) else (pleachref19_Same.l1 k 0 zaa zab zac zad zae zaf)
def pleachref19_Same.l1 : Nat → Int → Int → List (S29) → List Int → Int → List (S29) → List Int → Option (Bool)
  | 0, _, _, _, _, _, _, _ => none
  | k + 1, x6, zaa, zab, zac, zad, zae, zaf => if x6 < (zac.length : Int) then (if 0 ≤ x6 then (if x6 < (zaf.length : Int) then (if (rd zac x6) = (rd zaf x6) then (pleachref19_Same.l1 k (wrap64 (x6 + 1)) zaa zab zac zad zae zaf) else (some false)) else (none)) else (none)) else (some true)
end
def pleachref19_Same.f (k : Nat) (a0_0 : Int) (l0_1 : List (S29)) (l0_2 : List Int) (a1_0 : Int) (l1_1 : List (S29)) (l1_2 : List Int) : Option (Bool) := if a0_0 = a1_0 then (if (l0_1.length : Int) = (l1_1.length : Int) then (pleachref19_Same.j0 k ((l0_2.length : Int) != (l1_2.length : Int)) a0_0 l0_1 l0_2 a1_0 l1_1 l1_2) else (pleachref19_Same.j0 k true a0_0 l0_1 l0_2 a1_0 l1_1 l1_2)) else (pleachref19_Same.j0 k true a0_0 l0_1 l0_2 a1_0 l1_1 l1_2)
theorem pleachref19_Same.mono_l : ∀ k, (∀ y0 y1 y2 y3 y4 y5 y6, LeO (pleachref19_Same.j0 k y0 y1 y2 y3 y4 y5 y6) (pleachref19_Same.j0 (k + 1) y0 y1 y2 y3 y4 y5 y6)) ∧ (∀ y0 y1 y2 y3 y4 y5 y6, LeO (pleachref19_Same.l0 k y0 y1 y2 y3 y4 y5 y6) (pleachref19_Same.l0 (k + 1) y0 y1 y2 y3 y4 y5 y6)) ∧ (∀ y0 y1 y2 y3 y4 y5 y6, LeO (pleachref19_Same.l1 k y0 y1 y2 y3 y4 y5 y6) (pleachref19_Same.l1 (k + 1) y0 y1 y2 y3 y4 y5 y6))
  | 0 => ⟨fun _ _ _ _ _ _ _ r h => by simp [pleachref19_Same.j0] at h, fun _ _ _ _ _ _ _ r h => by simp [pleachref19_Same.l0] at h, fun _ _ _ _ _ _ _ r h => by simp [pleachref19_Same.l1] at h⟩
  | k + 1 => by
    obtain ⟨ih0, ih1, ih2⟩ := pleachref19_Same.mono_l k
    refine ⟨?_, ?_, ?_⟩
    · intro y0 y1 y2 y3 y4 y5 y6
      unfold pleachref19_Same.j0
      repeat' first
      | (with_reducible exact ih0 _ _ _ _ _ _ _)
      | (with_reducible exact ih1 _ _ _ _ _ _ _)
      | (with_reducible exact ih2 _ _ _ _ _ _ _)
      | (with_reducible exact LeO.refl _)
      | (with_reducible exact LeO.none _)
      | (with_reducible refine LeO.ite ?_ ?_)
      | (with_reducible refine LeO.bind ?_ (fun _ => ?_))
      | exact ih0 _ _ _ _ _ _ _
      | exact ih1 _ _ _ _ _ _ _
      | exact ih2 _ _ _ _ _ _ _
      | exact LeO.none _
      | refine LeO.ite ?_ ?_
      | refine LeO.bind ?_ (fun _ => ?_)
    · intro y0 y1 y2 y3 y4 y5 y6
      unfold pleachref19_Same.l0
      repeat' first
      | (with_reducible exact ih0 _ _ _ _ _ _ _)
      | (with_reducible exact ih1 _ _ _ _ _ _ _)
      | (with_reducible exact ih2 _ _ _ _ _ _ _)
      | (with_reducible exact LeO.refl _)
      | (with_reducible exact LeO.none _)
      | (with_reducible refine LeO.ite ?_ ?_)
      | (with_reducible refine LeO.bind ?_ (fun _ => ?_))
      | exact ih0 _ _ _ _ _ _ _
      | exact ih1 _ _ _ _ _ _ _
      | exact ih2 _ _ _ _ _ _ _
      | exact LeO.none _
      | refine LeO.ite ?_ ?_
      | refine LeO.bind ?_ (fun _ => ?_)
    · intro y0 y1 y2 y3 y4 y5 y6
      unfold pleachref19_Same.l1
      repeat' first
      | (with_reducible exact ih0 _ _ _ _ _ _ _)
      | (with_reducible exact ih1 _ _ _ _ _ _ _)
      | (with_reducible exact ih2 _ _ _ _ _ _ _)
      | (with_reducible exact LeO.refl _)
      | (with_reducible exact LeO.none _)
      | (with_reducible refine LeO.ite ?_ ?_)
      | (with_reducible refine LeO.bind ?_ (fun _ => ?_))
      | exact ih0 _ _ _ _ _ _ _
      | exact ih1 _ _ _ _ _ _ _
      | exact ih2 _ _ _ _ _ _ _
      | exact LeO.none _
      | refine LeO.ite ?_ ?_
      | refine LeO.bind ?_ (fun _ => ?_)
theorem pleachref19_Same.mono : ∀ a0 a1 a2 a3 a4 a5 k, LeO (pleachref19_Same.f k a0 a1 a2 a3 a4 a5) (pleachref19_Same.f (k + 1) a0 a1 a2 a3 a4 a5) := by
  intro a0 a1 a2 a3 a4 a5 k
  obtain ⟨ih0, ih1, ih2⟩ := pleachref19_Same.mono_l k
  unfold pleachref19_Same.f
  repeat' first
      | (with_reducible exact ih0 _ _ _ _ _ _ _)
      | (with_reducible exact ih1 _ _ _ _ _ _ _)
      | (with_reducible exact ih2 _ _ _ _ _ _ _)
      | (with_reducible exact LeO.refl _)
      | (with_reducible exact LeO.none _)
      | (with_reducible refine LeO.ite ?_ ?_)
      | (with_reducible refine LeO.bind ?_ (fun _ => ?_))
      | exact ih0 _ _ _ _ _ _ _
      | exact ih1 _ _ _ _ _ _ _
      | exact ih2 _ _ _ _ _ _ _
      | exact LeO.none _
      | refine LeO.ite ?_ ?_
      | refine LeO.bind ?_ (fun _ => ?_)
set_option maxHeartbeats 8000000 in
set_option maxRecDepth 100000 in
theorem pleachref19_Same.calls (k : Nat) (a0_0 : Int) (A0_1 : Option Addr) (c0_1 : Nat) (l0_1 : List (S29)) (A0_2 : Option Addr) (c0_2 : Nat) (l0_2 : List Int) (a1_0 : Int) (A1_1 : Option Addr) (c1_1 : Nat) (l1_1 : List (S29)) (A1_2 : Option Addr) (c1_2 : Nat) (l1_2 : List Int) (r : Bool) (w : World) (hr0_1 : Kd.C k29 w A0_1 l0_1.length l0_1) (hc0_1 : l0_1.length ≤ c0_1) (hr0_2 : Kd.C (Kd.int .i64) w A0_2 l0_2.length l0_2) (hc0_2 : l0_2.length ≤ c0_2) (hr1_1 : Kd.C k29 w A1_1 l1_1.length l1_1) (hc1_1 : l1_1.length ≤ c1_1) (hr1_2 : Kd.C (Kd.int .i64) w A1_2 l1_2.length l1_2) (hc1_2 : l1_2.length ≤ c1_2) (h : pleachref19_Same.f k a0_0 l0_1 l0_2 a1_0 l1_1 l1_2 = some r) :
    Calls Try.prog 13 #[.agg #[.int .i64 a0_0, .slice A0_1 l0_1.length c0_1, .slice A0_2 l0_2.length c0_2], .agg #[.int .i64 a1_0, .slice A1_1 l1_1.length c1_1, .slice A1_2 l1_2.length c1_2]] w fun e w' => e = .returned (.bool r) ∧ Below w.heap.size w w' := by
  have hu25 := Try.underlying25
  have hu29 := Try.underlying29
  have HR0_1 := Aside0.mk hr0_1
  have HC0_1 := Aside0.mk hc0_1
  clear hr0_1 hc0_1
  have HR0_2 := Aside0.mk hr0_2
  have HC0_2 := Aside0.mk hc0_2
  clear hr0_2 hc0_2
  have HR1_1 := Aside0.mk hr1_1
  have HC1_1 := Aside0.mk hc1_1
  clear hr1_1 hc1_1
  have HR1_2 := Aside0.mk hr1_2
  have HC1_2 := Aside0.mk hc1_2
  clear hr1_2 hc1_2
  have HB := Aside0.mk (Below.refl w.heap.size w)
  have H : (if a0_0 = a1_0 then (if (l0_1.length : Int) = (l1_1.length : Int) then (pleachref19_Same.j0 k ((l0_2.length : Int) != (l1_2.length : Int)) a0_0 l0_1 l0_2 a1_0 l1_1 l1_2) else (pleachref19_Same.j0 k true a0_0 l0_1 l0_2 a1_0 l1_1 l1_2)) else (pleachref19_Same.j0 k true a0_0 l0_1 l0_2 a1_0 l1_1 l1_2)) = some r := h
  clear h
  have HC3 := Aside0.mk H
  clear H
  go_enter Try.func13, Try.ntmps13
  go_upto_region 1 with (first | ((with_reducible refine gate_dst (N := 2) rfl ?_); (try (refine gate_guard (by rfl) ?_; dsimp only)); refine box_event ?hg (N := 2) ?hd (cs := #[.int .i64 a0_0, .slice A0_1 l0_1.length c0_1, .slice A0_2 l0_2.length c0_2]) (t := 25) ?hr ?_; (case hd => rfl); (case hg => rfl); (case hr => first | (go_simp; done) | (go_simp; rfl)); intro zag hg w4 hbox hb; have n0_ := M.upS HB hb; have n1_ := Aside0.mk (hbox); have n2_ := M.upG HB hg; have n3_ := M.upG HB hg; clear HB; have HB := n0_; have zah := n1_; have zai := n2_; have zaj := n3_; clear n0_ n1_ n2_ n3_; clear hb hbox hg) | ((with_reducible refine gate_dst (N := 3) rfl ?_); (try (refine gate_guard (by rfl) ?_; dsimp only)); refine box_event ?hg (N := 3) ?hd (cs := #[.int .i64 a1_0, .slice A1_1 l1_1.length c1_1, .slice A1_2 l1_2.length c1_2]) (t := 25) ?hr ?_; (case hd => rfl); (case hg => rfl); (case hr => first | (go_simp; done) | (go_simp; rfl)); intro zak hg w5 hbox hb; have n0_ := M.bkB zah hb; have n1_ := M.upS HB hb; have n2_ := Aside0.mk (hbox); have n3_ := M.upG HB hg; have n4_ := M.upG HB hg; have n5_ := M.bkL zah hg; have n6_ := M.bkG zah hg; clear zah HB; have zah := n0_; have HB := n1_; have zal := n2_; have zam := n3_; have zan := n4_; have zao := n5_; have zap := n6_; clear n0_ n1_ n2_ n3_ n4_ n5_ n6_; clear hb hbox hg))
  repeat (go_quiet (first | ((with_reducible refine gate_dst (N := 2) rfl ?_); (try (refine gate_guard (by rfl) ?_; dsimp only)); refine box_event ?hg (N := 2) ?hd (cs := #[.int .i64 a0_0, .slice A0_1 l0_1.length c0_1, .slice A0_2 l0_2.length c0_2]) (t := 25) ?hr ?_; (case hd => rfl); (case hg => rfl); (case hr => first | (go_simp; done) | (go_simp; rfl)); intro zag hg w4 hbox hb; have n0_ := M.upS HB hb; have n1_ := Aside0.mk (hbox); have n2_ := M.upG HB hg; have n3_ := M.upG HB hg; clear HB; have HB := n0_; have zah := n1_; have zai := n2_; have zaj := n3_; clear n0_ n1_ n2_ n3_; clear hb hbox hg) | ((with_reducible refine gate_dst (N := 3) rfl ?_); (try (refine gate_guard (by rfl) ?_; dsimp only)); refine box_event ?hg (N := 3) ?hd (cs := #[.int .i64 a1_0, .slice A1_1 l1_1.length c1_1, .slice A1_2 l1_2.length c1_2]) (t := 25) ?hr ?_; (case hd => rfl); (case hg => rfl); (case hr => first | (go_simp; done) | (go_simp; rfl)); intro zak hg w5 hbox hb; have n0_ := M.bkB zah hb; have n1_ := M.upS HB hb; have n2_ := Aside0.mk (hbox); have n3_ := M.upG HB hg; have n4_ := M.upG HB hg; have n5_ := M.bkL zah hg; have n6_ := M.bkG zah hg; clear zah HB; have zah := n0_; have HB := n1_; have zal := n2_; have zam := n3_; have zan := n4_; have zao := n5_; have zap := n6_; clear n0_ n1_ n2_ n3_ n4_ n5_ n6_; clear hb hbox hg)); go_upto_region 1 with (first | ((with_reducible refine gate_dst (N := 2) rfl ?_); (try (refine gate_guard (by rfl) ?_; dsimp only)); refine box_event ?hg (N := 2) ?hd (cs := #[.int .i64 a0_0, .slice A0_1 l0_1.length c0_1, .slice A0_2 l0_2.length c0_2]) (t := 25) ?hr ?_; (case hd => rfl); (case hg => rfl); (case hr => first | (go_simp; done) | (go_simp; rfl)); intro zag hg w4 hbox hb; have n0_ := M.upS HB hb; have n1_ := Aside0.mk (hbox); have n2_ := M.upG HB hg; have n3_ := M.upG HB hg; clear HB; have HB := n0_; have zah := n1_; have zai := n2_; have zaj := n3_; clear n0_ n1_ n2_ n3_; clear hb hbox hg) | ((with_reducible refine gate_dst (N := 3) rfl ?_); (try (refine gate_guard (by rfl) ?_; dsimp only)); refine box_event ?hg (N := 3) ?hd (cs := #[.int .i64 a1_0, .slice A1_1 l1_1.length c1_1, .slice A1_2 l1_2.length c1_2]) (t := 25) ?hr ?_; (case hd => rfl); (case hg => rfl); (case hr => first | (go_simp; done) | (go_simp; rfl)); intro zak hg w5 hbox hb; have n0_ := M.bkB zah hb; have n1_ := M.upS HB hb; have n2_ := Aside0.mk (hbox); have n3_ := M.upG HB hg; have n4_ := M.upG HB hg; have n5_ := M.bkL zah hg; have n6_ := M.bkG zah hg; clear zah HB; have zah := n0_; have HB := n1_; have zal := n2_; have zam := n3_; have zan := n4_; have zao := n5_; have zap := n6_; clear n0_ n1_ n2_ n3_ n4_ n5_ n6_; clear hb hbox hg)))
  (try simp only [Act.put, List.setIfInBounds_toArray, List.set_cons_zero, List.set_cons_succ])
  go_cut [29] (fun v29 wc => ∃ (kq : Nat) (x29_2 : Bool), v29 = .bool x29_2 ∧ Aside0 (pleachref19_Same.j0 kq x29_2 a0_0 l0_1 l0_2 a1_0 l1_1 l1_2 = some r) ∧ Aside0 (kq ≤ k) ∧ Aside0 (wc.heap[zag]? = some (.cells #[.int .i64 a0_0, (.slice A0_1 l0_1.length c0_1), (.slice A0_2 l0_2.length c0_2)] 25 (0, 0))) ∧ Aside0 (wc.heap[zak]? = some (.cells #[.int .i64 a1_0, (.slice A1_1 l1_1.length c1_1), (.slice A1_2 l1_2.length c1_2)] 25 (0, 0))) ∧ Aside0 (Below w.heap.size w wc))
  case first =>
    have H := HC3.out
    clear HC3
    by_cases c6 : a0_0 = a1_0
    · rw [if_pos c6] at H
      have c6b0 : (a0_0 == a1_0) = true := beq_iff_eq.mpr c6
      have c6b1 : (a0_0 != a1_0) = false := bne_eq_false_iff_eq.mpr c6
      clear c6
      (first | rw [c6b0] | (simp only [i64_w, i32_w]; rw [c6b0]) | skip)
      by_cases c7 : (l0_1.length : Int) = (l1_1.length : Int)
      · rw [if_pos c7] at H
        have c7b0 : ((l0_1.length : Int) == (l1_1.length : Int)) = true := beq_iff_eq.mpr c7
        have c7b1 : ((l0_1.length : Int) != (l1_1.length : Int)) = false := bne_eq_false_iff_eq.mpr c7
        have c7b2 : (l0_1.length == l1_1.length) = true := by first | simpa using c7 | (simp at c7 ⊢; omega)
        clear c7
        have H' := Aside0.mk H
        clear H
        have zaq := zao.out
        have zar := zap.out
        obtain ⟨zas, zat, zau⟩ := M.bc3 (w := w5) (a := .int .i64 a0_0) (b := .slice A0_1 l0_1.length c0_1) (c := .slice A0_2 l0_2.length c0_2) zah.out
        obtain ⟨zav, zaw, zax⟩ := M.bf3 zah
        obtain ⟨zay, zaz, zaA⟩ := M.bc3 (w := w5) (a := .int .i64 a1_0) (b := .slice A1_1 l1_1.length c1_1) (c := .slice A1_2 l1_2.length c1_2) zal.out
        obtain ⟨zaB, zaC, zaD⟩ := M.bf3 zal
        go_wp2
        repeat (go_quiet (fail); try go_wp2)
        go_meet
        case rel => exact ⟨_, (((l0_2.length : Int) != (l1_2.length : Int))), (by first | rfl | (simp; done) | (simp [*]; done) | (simp [M.isEmpty_bne]; done)), H', ⟨by first | omega | exact Nat.le_refl _⟩, ⟨by (with_reducible repeat (first | refine blk_drewN ?_ _ | refine blk_drew ?_ | refine blk_alloc ?_ _)); exact zah.out⟩, ⟨by (with_reducible repeat (first | refine blk_drewN ?_ _ | refine blk_drew ?_ | refine blk_alloc ?_ _)); exact zal.out⟩, ⟨M.up HB⟩⟩
      · rw [if_neg c7] at H
        have c7b0 : ((l0_1.length : Int) == (l1_1.length : Int)) = false := beq_eq_false_iff_ne.mpr c7
        have c7b1 : ((l0_1.length : Int) != (l1_1.length : Int)) = true := bne_iff_ne.mpr c7
        have c7b2 : (l0_1.length == l1_1.length) = false := by first | simpa using c7 | (simp at c7 ⊢; omega)
        have H' := Aside0.mk H
        clear H
        have zaE := zao.out
        have zaF := zap.out
        obtain ⟨zaG, zaH, zaI⟩ := M.bc3 (w := w5) (a := .int .i64 a0_0) (b := .slice A0_1 l0_1.length c0_1) (c := .slice A0_2 l0_2.length c0_2) zah.out
        obtain ⟨zaJ, zaK, zaL⟩ := M.bf3 zah
        obtain ⟨zaM, zaN, zaO⟩ := M.bc3 (w := w5) (a := .int .i64 a1_0) (b := .slice A1_1 l1_1.length c1_1) (c := .slice A1_2 l1_2.length c1_2) zal.out
        obtain ⟨zaP, zaQ, zaR⟩ := M.bf3 zal
        go_wp2
        repeat (go_quiet (fail); try go_wp2)
        go_meet
        case rel => exact ⟨_, (true), (by first | rfl | (simp; done) | (simp [*]; done) | (simp [M.isEmpty_bne]; done)), H', ⟨by first | omega | exact Nat.le_refl _⟩, ⟨by (with_reducible repeat (first | refine blk_drewN ?_ _ | refine blk_drew ?_ | refine blk_alloc ?_ _)); exact zah.out⟩, ⟨by (with_reducible repeat (first | refine blk_drewN ?_ _ | refine blk_drew ?_ | refine blk_alloc ?_ _)); exact zal.out⟩, ⟨M.up HB⟩⟩
    · rw [if_neg c6] at H
      have c6b0 : (a0_0 == a1_0) = false := beq_eq_false_iff_ne.mpr c6
      have c6b1 : (a0_0 != a1_0) = true := bne_iff_ne.mpr c6
      (first | rw [c6b0] | (simp only [i64_w, i32_w]; rw [c6b0]) | skip)
      have H' := Aside0.mk H
      clear H
      have zaS := zao.out
      have zaT := zap.out
      obtain ⟨zaU, zaV, zaW⟩ := M.bc3 (w := w5) (a := .int .i64 a0_0) (b := .slice A0_1 l0_1.length c0_1) (c := .slice A0_2 l0_2.length c0_2) zah.out
      obtain ⟨zaX, zaY, zaZ⟩ := M.bf3 zah
      obtain ⟨za0, za1, za2⟩ := M.bc3 (w := w5) (a := .int .i64 a1_0) (b := .slice A1_1 l1_1.length c1_1) (c := .slice A1_2 l1_2.length c1_2) zal.out
      obtain ⟨za3, za4, za5⟩ := M.bf3 zal
      go_wp2
      repeat (go_quiet (fail); try go_wp2)
      go_meet
      case rel => exact ⟨_, (true), (by first | rfl | (simp; done) | (simp [*]; done) | (simp [M.isEmpty_bne]; done)), H', ⟨by first | omega | exact Nat.le_refl _⟩, ⟨by (with_reducible repeat (first | refine blk_drewN ?_ _ | refine blk_drew ?_ | refine blk_alloc ?_ _)); exact zah.out⟩, ⟨by (with_reducible repeat (first | refine blk_drewN ?_ _ | refine blk_drew ?_ | refine blk_alloc ?_ _)); exact zal.out⟩, ⟨M.up HB⟩⟩
  case rest =>
    clear HC3
    try clear c1
    try clear p2
    try clear c6
    try clear c6b0
    try clear c6b1
    try clear c7
    try clear c7b0
    try clear c7b1
    try clear c7b2
    try clear c8
    try clear c11
    try clear c13
    try clear c14
    try clear zay
    try clear zaz
    try clear zaA
    try clear zaG
    try clear zaH
    try clear zaI
    try clear zaM
    try clear zaN
    try clear zaO
    try clear zaU
    try clear zaV
    try clear zaW
    try clear za0
    try clear za1
    try clear za2
    try clear zas
    try clear zat
    try clear zau
    try clear zaB
    try clear zaC
    try clear zaD
    try clear zaJ
    try clear zaK
    try clear zaL
    try clear zaP
    try clear zaQ
    try clear zaR
    try clear zaX
    try clear zaY
    try clear zaZ
    try clear za3
    try clear za4
    try clear za5
    try clear zav
    try clear zaw
    try clear zax
    obtain ⟨kq, x29_2, rfl, HA, HJ2, zah, zal, HB⟩ := hcut
    cases kq with
    | zero => exact absurd HA.out (by simp [pleachref19_Same.j0])
    | succ kj2 =>
      have H := HA.out
      clear HA
      simp only [pleachref19_Same.j0] at H
      by_cases c17 : x29_2 = true
      · subst c17
        have H1 : (some false) = some r := by rw [if_pos rfl] at H; exact H
        clear H
        have H := H1
        clear H1
        obtain rfl := Option.some.inj H
        go_wp2
        repeat (go_quiet (fail); try go_wp2)
        go_ret
        exact M.fin (M.up HB)
      · replace c17 := Bool.eq_false_iff.mpr c17
        subst c17
        have H1 : (pleachref19_Same.l0 kj2 0 a0_0 l0_1 l0_2 a1_0 l1_1 l1_2) = some r := by rw [if_neg (show ¬ (false = true) by decide)] at H; exact H
        clear H
        have H := H1
        clear H1
        have H' := Aside0.mk H
        clear H
        go_wp2
        repeat (go_quiet (fail); try go_wp2)
        go_loopg [5] kj2 (fun kq v5 w' => ∃ (x5_2 : Int), v5 = .int .i64 x5_2 ∧ Aside0 (pleachref19_Same.l0 kq x5_2 a0_0 l0_1 l0_2 a1_0 l1_1 l1_2 = some r) ∧ Aside0 (kq ≤ kj2) ∧ Aside0 (w'.heap[zag]? = some (.cells #[.int .i64 a0_0, (.slice A0_1 l0_1.length c0_1), (.slice A0_2 l0_2.length c0_2)] 25 (0, 0))) ∧ Aside0 (w'.heap[zak]? = some (.cells #[.int .i64 a1_0, (.slice A1_1 l1_1.length c1_1), (.slice A1_2 l1_2.length c1_2)] 25 (0, 0))) ∧ Aside0 (Below w.heap.size w w'))
        case atStart => exact ⟨(0), (by first | rfl | (simp; done) | (simp [*]; done) | (simp [M.isEmpty_bne]; done)), H', ⟨Nat.le_refl _⟩, ⟨by (with_reducible repeat (first | refine blk_drewN ?_ _ | refine blk_drew ?_ | refine blk_alloc ?_ _)); exact zah.out⟩, ⟨by (with_reducible repeat (first | refine blk_drewN ?_ _ | refine blk_drew ?_ | refine blk_alloc ?_ _)); exact zal.out⟩, ⟨M.up HB⟩⟩
        case round =>
          clear H'
          try clear c1
          try clear p2
          try clear c6
          try clear c6b0
          try clear c6b1
          try clear c7
          try clear c7b0
          try clear c7b1
          try clear c7b2
          try clear c8
          try clear c11
          try clear c13
          try clear c14
          try clear c17
          try clear zay
          try clear zaz
          try clear zaA
          try clear zaG
          try clear zaH
          try clear zaI
          try clear zaM
          try clear zaN
          try clear zaO
          try clear zaU
          try clear zaV
          try clear zaW
          try clear za0
          try clear za1
          try clear za2
          try clear zas
          try clear zat
          try clear zau
          try clear zaB
          try clear zaC
          try clear zaD
          try clear zaJ
          try clear zaK
          try clear zaL
          try clear zaP
          try clear zaQ
          try clear zaR
          try clear zaX
          try clear zaY
          try clear zaZ
          try clear za3
          try clear za4
          try clear za5
          try clear zav
          try clear zaw
          try clear zax
          try clear p2
          obtain ⟨x5_2, rfl, HA, HK2, zah, zal, HB⟩ := hrel
          cases gk with
          | zero => exact absurd HA.out (by simp [pleachref19_Same.l0])
          | succ k2 =>
            have H := HA.out
            clear HA
            simp only [pleachref19_Same.l0] at H
            by_cases c18 : x5_2 < (l0_1.length : Int)
            · rw [if_pos c18] at H
              have c18b0 : decide (x5_2 < (l0_1.length : Int)) = true := decide_eq_true c18
              clear c18
              by_cases c19 : 0 ≤ x5_2
              · rw [if_pos c19] at H
                have c19b0 : decide (0 ≤ x5_2) = true := decide_eq_true c19
                clear c19
                by_cases c20 : x5_2 < (l1_1.length : Int)
                · rw [if_pos c20] at H
                  have c20b0 : decide (x5_2 < (l1_1.length : Int)) = true := decide_eq_true c20
                  clear c20
                  by_cases c21 : (!((((rd_T29 l0_1 x5_2).f0).toList) == (((rd_T29 l1_1 x5_2).f0).toList)) || (!((((rd_T29 l0_1 x5_2).f1).toList) == (((rd_T29 l1_1 x5_2).f1).toList)))) = true
                  · rw [if_pos c21] at H
                    have c21b0 : (!((((rd_T29 l0_1 x5_2).f0).toList) == (((rd_T29 l1_1 x5_2).f0).toList)) || (!((((rd_T29 l0_1 x5_2).f1).toList) == (((rd_T29 l1_1 x5_2).f1).toList)))) = true := c21
                    clear c21
                    obtain rfl := Option.some.inj H
                    have za6 := zao.out
                    have za7 := zap.out
                    obtain ⟨za8, za9, zba⟩ := M.bc3 (w := wr) (a := .int .i64 a0_0) (b := .slice A0_1 l0_1.length c0_1) (c := .slice A0_2 l0_2.length c0_2) zah.out
                    obtain ⟨zbb, zbc, zbd⟩ := M.bf3 zah
                    have p147 : 0 ≤ (x5_2 : Int) := of_decide_eq_true (by first | (with_reducible assumption) | assumption)
                    have q147 : x5_2 < (l0_1.length : Int) := of_decide_eq_true (by first | (with_reducible assumption) | assumption)
                    obtain ⟨ad147, e147, hx147_0, hx147_1⟩ := at_T29 HR0_1.out x5_2 p147 q147
                    cases e147
                    replace hx147_0 := (HB.out.cell (World.block_lt_of_cell? w _ hx147_0)).trans hx147_0
                    replace hx147_1 := (HB.out.cell (World.block_lt_of_cell? w _ hx147_1)).trans hx147_1
                    replace p147 := eq_true p147
                    replace q147 := eq_true q147
                    obtain ⟨zbe, zbf, zbg⟩ := M.bc3 (w := wr) (a := .int .i64 a1_0) (b := .slice A1_1 l1_1.length c1_1) (c := .slice A1_2 l1_2.length c1_2) zal.out
                    obtain ⟨zbh, zbi, zbj⟩ := M.bf3 zal
                    have p148 : 0 ≤ (x5_2 : Int) := of_decide_eq_true (by first | (with_reducible assumption) | assumption)
                    have q148 : x5_2 < (l1_1.length : Int) := of_decide_eq_true (by first | (with_reducible assumption) | assumption)
                    obtain ⟨ad148, e148, hx148_0, hx148_1⟩ := at_T29 HR1_1.out x5_2 p148 q148
                    cases e148
                    replace hx148_0 := (HB.out.cell (World.block_lt_of_cell? w _ hx148_0)).trans hx148_0
                    replace hx148_1 := (HB.out.cell (World.block_lt_of_cell? w _ hx148_1)).trans hx148_1
                    replace p148 := eq_true p148
                    replace q148 := eq_true q148
                    go_wp2
                    repeat (go_quiet (fail); try go_wp2)
                    go_ret
                    exact M.fin (M.up HB)
                  · rw [if_neg c21] at H
                    have c21b0 : (!((((rd_T29 l0_1 x5_2).f0).toList) == (((rd_T29 l1_1 x5_2).f0).toList)) || (!((((rd_T29 l0_1 x5_2).f1).toList) == (((rd_T29 l1_1 x5_2).f1).toList)))) = false := by simpa using c21
                    clear c21
                    have H' := Aside0.mk H
                    clear H
                    have zbk := zao.out
                    have zbl := zap.out
                    obtain ⟨zbm, zbn, zbo⟩ := M.bc3 (w := wr) (a := .int .i64 a0_0) (b := .slice A0_1 l0_1.length c0_1) (c := .slice A0_2 l0_2.length c0_2) zah.out
                    obtain ⟨zbp, zbq, zbr⟩ := M.bf3 zah
                    have p147 : 0 ≤ (x5_2 : Int) := of_decide_eq_true (by first | (with_reducible assumption) | assumption)
                    have q147 : x5_2 < (l0_1.length : Int) := of_decide_eq_true (by first | (with_reducible assumption) | assumption)
                    obtain ⟨ad147, e147, hx147_0, hx147_1⟩ := at_T29 HR0_1.out x5_2 p147 q147
                    cases e147
                    replace hx147_0 := (HB.out.cell (World.block_lt_of_cell? w _ hx147_0)).trans hx147_0
                    replace hx147_1 := (HB.out.cell (World.block_lt_of_cell? w _ hx147_1)).trans hx147_1
                    replace p147 := eq_true p147
                    replace q147 := eq_true q147
                    obtain ⟨zbs, zbt, zbu⟩ := M.bc3 (w := wr) (a := .int .i64 a1_0) (b := .slice A1_1 l1_1.length c1_1) (c := .slice A1_2 l1_2.length c1_2) zal.out
                    obtain ⟨zbv, zbw, zbx⟩ := M.bf3 zal
                    have p148 : 0 ≤ (x5_2 : Int) := of_decide_eq_true (by first | (with_reducible assumption) | assumption)
                    have q148 : x5_2 < (l1_1.length : Int) := of_decide_eq_true (by first | (with_reducible assumption) | assumption)
                    obtain ⟨ad148, e148, hx148_0, hx148_1⟩ := at_T29 HR1_1.out x5_2 p148 q148
                    cases e148
                    replace hx148_0 := (HB.out.cell (World.block_lt_of_cell? w _ hx148_0)).trans hx148_0
                    replace hx148_1 := (HB.out.cell (World.block_lt_of_cell? w _ hx148_1)).trans hx148_1
                    replace p148 := eq_true p148
                    replace q148 := eq_true q148
                    go_wp2
                    repeat (go_quiet (fail); try go_wp2)
                    go_roundg k2
                    case measure => have := HJ2.out; have := HK2.out; omega
                    case rel => exact ⟨(wrap64 (x5_2 + 1)), (by first | rfl | (simp; done) | (simp [*]; done) | (simp [M.isEmpty_bne]; done)), H', ⟨by have := HJ2.out; have := HK2.out; omega⟩, ⟨by (with_reducible repeat (first | refine blk_drewN ?_ _ | refine blk_drew ?_ | refine blk_alloc ?_ _)); exact zah.out⟩, ⟨by (with_reducible repeat (first | refine blk_drewN ?_ _ | refine blk_drew ?_ | refine blk_alloc ?_ _)); exact zal.out⟩, ⟨M.up HB⟩⟩
                · rw [if_neg c20] at H
                  exact absurd H (by simp)
              · rw [if_neg c19] at H
                exact absurd H (by simp)
            · rw [if_neg c18] at H
              have c18b0 : decide (x5_2 < (l0_1.length : Int)) = false := decide_eq_false c18
              clear c18
              have H' := Aside0.mk H
              clear H
              have zby := zao.out
              have zbz := zap.out
              obtain ⟨zbA, zbB, zbC⟩ := M.bc3 (w := wr) (a := .int .i64 a0_0) (b := .slice A0_1 l0_1.length c0_1) (c := .slice A0_2 l0_2.length c0_2) zah.out
              obtain ⟨zbD, zbE, zbF⟩ := M.bf3 zah
              go_wp2
              repeat (go_quiet (fail); try go_wp2)
              go_loopg [6] k2 (fun kq v6 w' => ∃ (x6_3 : Int), v6 = .int .i64 x6_3 ∧ Aside0 (pleachref19_Same.l1 kq x6_3 a0_0 l0_1 l0_2 a1_0 l1_1 l1_2 = some r) ∧ Aside0 (kq ≤ k2) ∧ Aside0 (w'.heap[zag]? = some (.cells #[.int .i64 a0_0, (.slice A0_1 l0_1.length c0_1), (.slice A0_2 l0_2.length c0_2)] 25 (0, 0))) ∧ Aside0 (w'.heap[zak]? = some (.cells #[.int .i64 a1_0, (.slice A1_1 l1_1.length c1_1), (.slice A1_2 l1_2.length c1_2)] 25 (0, 0))) ∧ Aside0 (Below w.heap.size w w'))
              case atStart => exact ⟨(0), (by first | rfl | (simp; done) | (simp [*]; done) | (simp [M.isEmpty_bne]; done)), H', ⟨Nat.le_refl _⟩, ⟨by (with_reducible repeat (first | refine blk_drewN ?_ _ | refine blk_drew ?_ | refine blk_alloc ?_ _)); exact zah.out⟩, ⟨by (with_reducible repeat (first | refine blk_drewN ?_ _ | refine blk_drew ?_ | refine blk_alloc ?_ _)); exact zal.out⟩, ⟨M.up HB⟩⟩
              case round =>
                clear H'
                try clear c1
                try clear p1
                try clear q1
                try clear hx1
                try clear c2
                try clear p2
                try clear c6
                try clear c6b0
                try clear c6b1
                try clear p6
                try clear c7
                try clear c7b0
                try clear c7b1
                try clear c7b2
                try clear c8
                try clear c11
                try clear c13
                try clear c14
                try clear p14
                try clear q14
                try clear hx14
                try clear c17
                try clear c18
                try clear c18b0
                try clear c19
                try clear c19b0
                try clear c20
                try clear c20b0
                try clear c21
                try clear c21b0
                try clear c22
                try clear c25
                try clear c28
                try clear zay
                try clear zaz
                try clear zaA
                try clear zaG
                try clear zaH
                try clear zaI
                try clear zaM
                try clear zaN
                try clear zaO
                try clear zaU
                try clear zaV
                try clear zaW
                try clear za0
                try clear za1
                try clear za2
                try clear za8
                try clear za9
                try clear zba
                try clear zbe
                try clear zbf
                try clear zbg
                try clear zbm
                try clear zbn
                try clear zbo
                try clear zbs
                try clear zbt
                try clear zbu
                try clear zbA
                try clear zbB
                try clear zbC
                try clear zas
                try clear zat
                try clear zau
                try clear zaB
                try clear zaC
                try clear zaD
                try clear zaJ
                try clear zaK
                try clear zaL
                try clear zaP
                try clear zaQ
                try clear zaR
                try clear zaX
                try clear zaY
                try clear zaZ
                try clear za3
                try clear za4
                try clear za5
                try clear zbb
                try clear zbc
                try clear zbd
                try clear zbh
                try clear zbi
                try clear zbj
                try clear zbp
                try clear zbq
                try clear zbr
                try clear zbv
                try clear zbw
                try clear zbx
                try clear zbD
                try clear zbE
                try clear zbF
                try clear zav
                try clear zaw
                try clear zax
                try clear hx147_0
                try clear hx147_1
                try clear hx148_0
                try clear hx148_1
                try clear p147
                try clear p148
                try clear p2
                try clear q147
                try clear q148
                obtain ⟨x6_3, rfl, HA, HK3, zah, zal, HB⟩ := hrel
                cases gk with
                | zero => exact absurd HA.out (by simp [pleachref19_Same.l1])
                | succ k3 =>
                  have H := HA.out
                  clear HA
                  simp only [pleachref19_Same.l1] at H
                  by_cases c30 : x6_3 < (l0_2.length : Int)
                  · rw [if_pos c30] at H
                    have c30b0 : decide (x6_3 < (l0_2.length : Int)) = true := decide_eq_true c30
                    clear c30
                    by_cases c31 : 0 ≤ x6_3
                    · rw [if_pos c31] at H
                      have c31b0 : decide (0 ≤ x6_3) = true := decide_eq_true c31
                      clear c31
                      by_cases c32 : x6_3 < (l1_2.length : Int)
                      · rw [if_pos c32] at H
                        have c32b0 : decide (x6_3 < (l1_2.length : Int)) = true := decide_eq_true c32
                        clear c32
                        by_cases c33 : (rd l0_2 x6_3) = (rd l1_2 x6_3)
                        · rw [if_pos c33] at H
                          have c33b0 : ((rd l0_2 x6_3) == (rd l1_2 x6_3)) = true := beq_iff_eq.mpr c33
                          have c33b1 : ((rd l0_2 x6_3) != (rd l1_2 x6_3)) = false := bne_eq_false_iff_eq.mpr c33
                          clear c33
                          have H' := Aside0.mk H
                          clear H
                          have zbG := zao.out
                          have zbH := zap.out
                          obtain ⟨zbI, zbJ, zbK⟩ := M.bc3 (w := wr) (a := .int .i64 a0_0) (b := .slice A0_1 l0_1.length c0_1) (c := .slice A0_2 l0_2.length c0_2) zah.out
                          obtain ⟨zbL, zbM, zbN⟩ := M.bf3 zah
                          have p149 : 0 ≤ (x6_3 : Int) := of_decide_eq_true (by first | (with_reducible assumption) | assumption)
                          have q149 : x6_3 < (l0_2.length : Int) := of_decide_eq_true (by first | (with_reducible assumption) | assumption)
                          obtain ⟨ad149, e149, hx149_0⟩ := Kd.at_int HR0_2.out x6_3 p149 q149
                          cases e149
                          replace hx149_0 := (HB.out.cell (World.block_lt_of_cell? w _ hx149_0)).trans hx149_0
                          replace p149 := eq_true p149
                          replace q149 := eq_true q149
                          obtain ⟨zbO, zbP, zbQ⟩ := M.bc3 (w := wr) (a := .int .i64 a1_0) (b := .slice A1_1 l1_1.length c1_1) (c := .slice A1_2 l1_2.length c1_2) zal.out
                          obtain ⟨zbR, zbS, zbT⟩ := M.bf3 zal
                          have p150 : 0 ≤ (x6_3 : Int) := of_decide_eq_true (by first | (with_reducible assumption) | assumption)
                          have q150 : x6_3 < (l1_2.length : Int) := of_decide_eq_true (by first | (with_reducible assumption) | assumption)
                          obtain ⟨ad150, e150, hx150_0⟩ := Kd.at_int HR1_2.out x6_3 p150 q150
                          cases e150
                          replace hx150_0 := (HB.out.cell (World.block_lt_of_cell? w _ hx150_0)).trans hx150_0
                          replace p150 := eq_true p150
                          replace q150 := eq_true q150
                          go_wp2
                          repeat (go_quiet (fail); try go_wp2)
                          go_roundg k3
                          case measure => have := HJ2.out; have := HK2.out; have := HK3.out; omega
                          case rel => exact ⟨(wrap64 (x6_3 + 1)), (by first | rfl | (simp; done) | (simp [*]; done) | (simp [M.isEmpty_bne]; done)), H', ⟨by have := HJ2.out; have := HK2.out; have := HK3.out; omega⟩, ⟨by (with_reducible repeat (first | refine blk_drewN ?_ _ | refine blk_drew ?_ | refine blk_alloc ?_ _)); exact zah.out⟩, ⟨by (with_reducible repeat (first | refine blk_drewN ?_ _ | refine blk_drew ?_ | refine blk_alloc ?_ _)); exact zal.out⟩, ⟨M.up HB⟩⟩
                        · rw [if_neg c33] at H
                          have c33b0 : ((rd l0_2 x6_3) == (rd l1_2 x6_3)) = false := beq_eq_false_iff_ne.mpr c33
                          have c33b1 : ((rd l0_2 x6_3) != (rd l1_2 x6_3)) = true := bne_iff_ne.mpr c33
                          obtain rfl := Option.some.inj H
                          have zbU := zao.out
                          have zbV := zap.out
                          obtain ⟨zbW, zbX, zbY⟩ := M.bc3 (w := wr) (a := .int .i64 a0_0) (b := .slice A0_1 l0_1.length c0_1) (c := .slice A0_2 l0_2.length c0_2) zah.out
                          obtain ⟨zbZ, zb0, zb1⟩ := M.bf3 zah
                          have p149 : 0 ≤ (x6_3 : Int) := of_decide_eq_true (by first | (with_reducible assumption) | assumption)
                          have q149 : x6_3 < (l0_2.length : Int) := of_decide_eq_true (by first | (with_reducible assumption) | assumption)
                          obtain ⟨ad149, e149, hx149_0⟩ := Kd.at_int HR0_2.out x6_3 p149 q149
                          cases e149
                          replace hx149_0 := (HB.out.cell (World.block_lt_of_cell? w _ hx149_0)).trans hx149_0
                          replace p149 := eq_true p149
                          replace q149 := eq_true q149
                          obtain ⟨zb2, zb3, zb4⟩ := M.bc3 (w := wr) (a := .int .i64 a1_0) (b := .slice A1_1 l1_1.length c1_1) (c := .slice A1_2 l1_2.length c1_2) zal.out
                          obtain ⟨zb5, zb6, zb7⟩ := M.bf3 zal
                          have p150 : 0 ≤ (x6_3 : Int) := of_decide_eq_true (by first | (with_reducible assumption) | assumption)
                          have q150 : x6_3 < (l1_2.length : Int) := of_decide_eq_true (by first | (with_reducible assumption) | assumption)
                          obtain ⟨ad150, e150, hx150_0⟩ := Kd.at_int HR1_2.out x6_3 p150 q150
                          cases e150
                          replace hx150_0 := (HB.out.cell (World.block_lt_of_cell? w _ hx150_0)).trans hx150_0
                          replace p150 := eq_true p150
                          replace q150 := eq_true q150
                          go_wp2
                          repeat (go_quiet (fail); try go_wp2)
                          go_ret
                          exact M.fin (M.up HB)
                      · rw [if_neg c32] at H
                        exact absurd H (by simp)
                    · rw [if_neg c31] at H
                      exact absurd H (by simp)
                  · rw [if_neg c30] at H
                    have c30b0 : decide (x6_3 < (l0_2.length : Int)) = false := decide_eq_false c30
                    clear c30
                    obtain rfl := Option.some.inj H
                    have zb8 := zao.out
                    have zb9 := zap.out
                    obtain ⟨zca, zcb, zcc⟩ := M.bc3 (w := wr) (a := .int .i64 a0_0) (b := .slice A0_1 l0_1.length c0_1) (c := .slice A0_2 l0_2.length c0_2) zah.out
                    obtain ⟨zcd, zce, zcf⟩ := M.bf3 zah
                    go_wp2
                    repeat (go_quiet (fail); try go_wp2)
                    go_ret
                    exact M.fin (M.up HB)

/-! ### chunk_Over: function 14 -/
def chunk_Over.l0 : Nat → List (S32) → Int → Int → Int → List (S29) → List Int → Option (Int × (List (S29)) × List Int)
  | 0, _, _, _, _, _, _ => none
  | k + 1, x10, x11, x12, zcg, zch, zci => if x12 < x11 then (if 0 ≤ x12 then (if x12 < (x10.length : Int) then (if zch.length < 4398046511104 then (if zci.length < 17592186044416 then (chunk_Over.l0 k x10 x11 (wrap64 (x12 + 1)) zcg (zch ++ [(⟨(rd_T32 x10 x12).f0, (rd_T32 x10 x12).f1⟩ : S29)]) (zci ++ [(rd_T32 x10 x12).f2])) else (none)) else (none)) else (none)) else (none)) else (some (zcg, zch, zci))
def chunk_Over.f (k : Nat) (a0 : Int) (l1 : List (S32)) : Option (Int × (List (S29)) × List Int) := chunk_Over.l0 k l1 (l1.length : Int) 0 a0 ([] : List (S29)) ([] : List Int)
theorem chunk_Over.mono_l : ∀ k, (∀ y0 y1 y2 y3 y4 y5, LeO (chunk_Over.l0 k y0 y1 y2 y3 y4 y5) (chunk_Over.l0 (k + 1) y0 y1 y2 y3 y4 y5))
  | 0 => fun _ _ _ _ _ _ r h => by simp [chunk_Over.l0] at h
  | k + 1 => by
    have ih0 := chunk_Over.mono_l k
    · intro y0 y1 y2 y3 y4 y5
      unfold chunk_Over.l0
      repeat' first
      | (with_reducible exact ih0 _ _ _ _ _ _)
      | (with_reducible exact LeO.refl _)
      | (with_reducible exact LeO.none _)
      | (with_reducible refine LeO.ite ?_ ?_)
      | (with_reducible refine LeO.bind ?_ (fun _ => ?_))
      | exact ih0 _ _ _ _ _ _
      | exact LeO.none _
      | refine LeO.ite ?_ ?_
      | refine LeO.bind ?_ (fun _ => ?_)
theorem chunk_Over.mono : ∀ a0 a1 k, LeO (chunk_Over.f k a0 a1) (chunk_Over.f (k + 1) a0 a1) := by
  intro a0 a1 k
  have ih0 := chunk_Over.mono_l k
  unfold chunk_Over.f
  repeat' first
      | (with_reducible exact ih0 _ _ _ _ _ _)
      | (with_reducible exact LeO.refl _)
      | (with_reducible exact LeO.none _)
      | (with_reducible refine LeO.ite ?_ ?_)
      | (with_reducible refine LeO.bind ?_ (fun _ => ?_))
      | exact ih0 _ _ _ _ _ _
      | exact LeO.none _
      | refine LeO.ite ?_ ?_
      | refine LeO.bind ?_ (fun _ => ?_)
set_option maxHeartbeats 8000000 in
set_option maxRecDepth 100000 in
theorem chunk_Over.calls (k : Nat) (a0 : Int) (A1 : Option Addr) (c1 : Nat) (l1 : List (S32)) (r1 : Int) (r2 : List (S29)) (r3 : List Int) (w : World) (hr1 : Kd.C k32 w A1 l1.length l1) (hc1 : l1.length ≤ c1) (h : chunk_Over.f k a0 l1 = some (r1, r2, r3)) :
    Calls Try.prog 14 #[.int .i64 a0, .slice A1 l1.length c1] w fun e w' => ∃ v1_ v2_ : Value, e = .returned (.agg #[.int .i64 r1, v1_, v2_]) ∧ Kd.R k29 29 w' w.heap.size (fun _ => True) v1_ r2 ∧ Kd.R (Kd.int .i64) 3 w' w.heap.size (fun _ => True) v2_ r3 ∧ Below w.heap.size w w' := by
  have hu25 := Try.underlying25
  have hu32 := Try.underlying32
  have hu29 := Try.underlying29
  have HR1 := Aside0.mk hr1
  have HC1 := Aside0.mk hc1
  clear hr1 hc1
  have HB := Aside0.mk (Below.refl w.heap.size w)
  have H : (chunk_Over.l0 k l1 (l1.length : Int) 0 a0 ([] : List (S29)) ([] : List Int)) = some (r1, r2, r3) := h
  clear h
  have H' := Aside0.mk H
  clear H
  go_enter Try.func14, Try.ntmps14
  go_wp2_with (first | ((with_reducible refine gate_dst (N := 4) rfl ?_); refine box_event ?hg (N := 4) ?hd (cs := #[.int .i64 0, .slice none 0 0, .slice none 0 0]) (t := 25) ?hr ?_; (case hd => rfl); (case hg => rfl); (case hr => first | (go_simp; done) | (go_simp; rfl)); intro zcj hg w3 hbox hb; have n0_ := M.upS HB hb; have n1_ := Aside0.mk (hbox); have n2_ := M.upG HB hg; have n3_ := M.upG HB hg; clear HB; have HB := n0_; have zck := n1_; have zcl := n2_; have zcm := n3_; clear n0_ n1_ n2_ n3_; clear hb hbox hg) | ((with_reducible refine gate_dst (N := 5) rfl ?_); refine box_event ?hg (N := 5) ?hd (cs := #[.int .i64 0, .slice none 0 0, .slice none 0 0]) (t := 25) ?hr ?_; (case hd => rfl); (case hg => rfl); (case hr => first | (go_simp; done) | (go_simp; rfl)); intro zcn hg w4 hbox hb; have n0_ := M.bkB zck hb; have n1_ := M.upS HB hb; have n2_ := Aside0.mk (hbox); have n3_ := M.upG HB hg; have n4_ := M.upG HB hg; have n5_ := M.bkL zck hg; have n6_ := M.bkG zck hg; clear zck HB; have zck := n0_; have HB := n1_; have zco := n2_; have zcp := n3_; have zcq := n4_; have zcr := n5_; have zcs := n6_; clear n0_ n1_ n2_ n3_ n4_ n5_ n6_; clear hb hbox hg; have zct := zcs.out; have zcu := zcr.out; obtain ⟨zcv, zcw, zcx⟩ := M.bc3 (w := w4) (a := .int .i64 0) (b := .slice none 0 0) (c := .slice none 0 0) zco.out; obtain ⟨zcy, zcz, zcA⟩ := M.bf3 zco))
  go_loopg [12] k (fun kq v12 w' => ∃ (x12_1 : Int) (zcB : List (S29)) (zcC : List Int) (zcD : Value) (zcE : Value), v12 = .int .i64 x12_1 ∧ Aside0 (chunk_Over.l0 kq l1 (l1.length : Int) x12_1 a0 zcB zcC = some (r1, r2, r3)) ∧ Aside0 (kq ≤ k) ∧ Aside0 (Kd.R k29 29 w' w.heap.size (fun _ => True) zcD zcB) ∧ Aside0 (Kd.R (Kd.int .i64) 3 w' w.heap.size (fun _ => True) zcE zcC) ∧ Aside0 (w'.heap[zcj]? = some (.cells #[.int .i64 0, (.slice none 0 0), (.slice none 0 0)] 25 (0, 0))) ∧ Aside0 (w'.heap[zcn]? = some (.cells #[.int .i64 a0, zcD, zcE] 25 (0, 0))) ∧ Aside0 (Below w.heap.size w w'))
  case atStart => exact ⟨(0), (([] : List (S29))), (([] : List Int)), (.slice none 0 0), (.slice none 0 0), (by first | rfl | (simp; done) | (simp [*]; done) | (simp [M.isEmpty_bne]; done)), H', ⟨Nat.le_refl _⟩, ⟨by first | exact Kd.R_nil _ _ _ _ _ | exact Kd.N_nil _ _ _ _ _ | exact Kd.V_nil _ _ _ _ _ | exact Kd.Q_nil _ _ _ _ _ | exact Kd.S_nil _ _ _ _ _⟩, ⟨by first | exact Kd.R_nil _ _ _ _ _ | exact Kd.N_nil _ _ _ _ _ | exact Kd.V_nil _ _ _ _ _ | exact Kd.Q_nil _ _ _ _ _ | exact Kd.S_nil _ _ _ _ _⟩, ⟨by (with_reducible repeat (first | refine blk_drewN ?_ _ | refine blk_drew ?_ | refine blk_alloc ?_ _)); refine blk_far ?_ zcr.out _; (with_reducible repeat (first | refine blk_drewN ?_ _ | refine blk_drew ?_ | refine blk_alloc ?_ _)); refine blk_far ?_ zcr.out _; (with_reducible repeat (first | refine blk_drewN ?_ _ | refine blk_drew ?_ | refine blk_alloc ?_ _)); refine blk_far ?_ zcr.out _; (with_reducible repeat (first | refine blk_drewN ?_ _ | refine blk_drew ?_ | refine blk_alloc ?_ _)); exact zck.out⟩, ⟨by (with_reducible repeat (first | refine blk_drewN ?_ _ | refine blk_drew ?_ | refine blk_alloc ?_ _)); refine blk_put (cs := #[.int .i64 a0, .slice none 0 0, .slice none 0 0]) ?_ 2 _ rfl; (with_reducible repeat (first | refine blk_drewN ?_ _ | refine blk_drew ?_ | refine blk_alloc ?_ _)); refine blk_put (cs := #[.int .i64 a0, .slice none 0 0, .slice none 0 0]) ?_ 1 _ rfl; (with_reducible repeat (first | refine blk_drewN ?_ _ | refine blk_drew ?_ | refine blk_alloc ?_ _)); refine blk_put (cs := #[.int .i64 0, .slice none 0 0, .slice none 0 0]) ?_ 0 _ rfl; (with_reducible repeat (first | refine blk_drewN ?_ _ | refine blk_drew ?_ | refine blk_alloc ?_ _)); exact zco.out⟩, ⟨M.up HB⟩⟩
  case round =>
    clear H'
    try clear c1
    try clear p2
    try clear c5
    try clear zcv
    try clear zcw
    try clear zcx
    try clear zcy
    try clear zcz
    try clear zcA
    obtain ⟨x12_1, zcB, zcC, zcD, zcE, rfl, HA, HK1, zcF, zcG, zck, zco, HB⟩ := hrel
    cases gk with
    | zero => exact absurd HA.out (by simp [chunk_Over.l0])
    | succ k1 =>
      have H := HA.out
      clear HA
      simp only [chunk_Over.l0] at H
      by_cases c7 : x12_1 < (l1.length : Int)
      · rw [if_pos c7] at H
        have c7b0 : decide (x12_1 < (l1.length : Int)) = true := decide_eq_true c7
        clear c7
        by_cases c8 : 0 ≤ x12_1
        · rw [if_pos c8] at H
          have c8b0 : decide (0 ≤ x12_1) = true := decide_eq_true c8
          clear c8
          by_cases c9 : x12_1 < (l1.length : Int)
          · rw [if_pos c9] at H
            have c9b0 : decide (x12_1 < (l1.length : Int)) = true := decide_eq_true c9
            clear c9
            by_cases c10 : zcB.length < 4398046511104
            · rw [if_pos c10] at H
              have LMc10 := Aside0.mk c10
              clear c10
              obtain ⟨y155, hy155⟩ : ∃ y_ : List (S29), y_ = (zcB ++ [(⟨(rd_T32 l1 x12_1).f0, (rd_T32 l1 x12_1).f1⟩ : S29)]) := ⟨_, rfl⟩
              replace H : (if zcC.length < 17592186044416 then (chunk_Over.l0 k1 l1 (l1.length : Int) (wrap64 (x12_1 + 1)) a0 y155 (zcC ++ [(rd_T32 l1 x12_1).f2])) else (none)) = some (r1, r2, r3) := by first | (rw [hy155]; with_reducible exact H) | (have H2_ := (Option.bind_some _ _).symm.trans H; rw [hy155]; with_reducible exact H2_) | (have H2_ := (Option.bind_some _ _).symm.trans H; with_reducible exact H2_) | with_reducible exact H | (rw [hy155]; exact H) | exact H
              have Ny155 := Aside0.mk hy155
              clear hy155
              by_cases c11 : zcC.length < 17592186044416
              · rw [if_pos c11] at H
                have LMc11 := Aside0.mk c11
                clear c11
                obtain ⟨y158, hy158⟩ : ∃ y_ : List Int, y_ = (zcC ++ [(rd_T32 l1 x12_1).f2]) := ⟨_, rfl⟩
                replace H : (chunk_Over.l0 k1 l1 (l1.length : Int) (wrap64 (x12_1 + 1)) a0 y155 y158) = some (r1, r2, r3) := by first | (rw [hy158]; with_reducible exact H) | (have H2_ := (Option.bind_some _ _).symm.trans H; rw [hy158]; with_reducible exact H2_) | (have H2_ := (Option.bind_some _ _).symm.trans H; with_reducible exact H2_) | with_reducible exact H | (rw [hy158]; exact H) | exact H
                have Ny158 := Aside0.mk hy158
                clear hy158
                have H' := Aside0.mk H
                clear H
                have p153 : 0 ≤ (x12_1 : Int) := of_decide_eq_true (by first | (with_reducible assumption) | assumption)
                have q153 : x12_1 < (l1.length : Int) := of_decide_eq_true (by first | (with_reducible assumption) | assumption)
                obtain ⟨ad153, e153, hx153_0, hx153_1, hx153_2⟩ := at_T32 HR1.out x12_1 p153 q153
                cases e153
                replace hx153_0 := (HB.out.cell (World.block_lt_of_cell? w _ hx153_0)).trans hx153_0
                replace hx153_1 := (HB.out.cell (World.block_lt_of_cell? w _ hx153_1)).trans hx153_1
                replace hx153_2 := (HB.out.cell (World.block_lt_of_cell? w _ hx153_2)).trans hx153_2
                replace p153 := eq_true p153
                replace q153 := eq_true q153
                go_wp2_with (first | ((with_reducible refine gate_dst (N := 7) rfl ?_); refine box_event ?hg (N := 7) ?hd (cs := #[.string (⟨#[]⟩ : ByteArray), .string (⟨#[]⟩ : ByteArray), .int .i64 0]) (t := 32) ?hr ?_; (case hd => rfl); (case hg => rfl); (case hr => first | (go_simp; done) | (go_simp; rfl)); intro zcH hg w12 hbox hb; have n0_ := M.roB zcF hb; have n1_ := M.roB zcG hb; have n2_ := M.bkB zck hb; have n3_ := M.bkB zco hb; have n4_ := M.upS HB hb; have n5_ := Aside0.mk (hbox); have n6_ := M.upG HB hg; have n7_ := M.upG HB hg; have n8_ := M.bkL zck hg; have n9_ := M.bkG zck hg; have n10_ := M.bkL zco hg; have n11_ := M.bkG zco hg; clear zcF zcG zck zco HB; have zcF := n0_; have zcG := n1_; have zck := n2_; have zco := n3_; have HB := n4_; have zcI := n5_; have zcJ := n6_; have zcK := n7_; have zcL := n8_; have zcM := n9_; have zcN := n10_; have zcO := n11_; clear n0_ n1_ n2_ n3_ n4_ n5_ n6_ n7_ n8_ n9_ n10_ n11_; clear hb hbox hg; have zcP := zcM.out; have zcQ := zcL.out; have zaS := zcO.out; have zaT := zcN.out; obtain ⟨zaU, zaV, zaW⟩ := M.bc3 (w := w12) (a := .string (⟨#[]⟩ : ByteArray)) (b := .string (⟨#[]⟩ : ByteArray)) (c := .int .i64 0) zcI.out; obtain ⟨zaX, zaY, zaZ⟩ := M.bf3 zcI; have zcR := zcs.out; have zcS := zcr.out; obtain ⟨zcT, zcU, zcV⟩ := M.bc3 (w := w12) (a := .int .i64 a0) (b := zcD) (c := zcE) zco.out; obtain ⟨zcW, zcX, zcY⟩ := M.bf3 zco) | ((with_reducible refine gate_builtin (b := .append) (xs := #[.tmp 17, .tmp 23]) rfl ?_); at_builtin; refine Kd.R_append k29 (w0 := w) w.heap.size rfl (.tmp 17) (.tmp 23) 22 29 (.agg #[(.string ⟨#[]⟩), (.string ⟨#[]⟩)]) 32 rfl Try.underlying22 info29 rfl (by decide) (by omega) zcD zcB (⟨(rd_T32 l1 x12_1).f0, (rd_T32 l1 x12_1).f1⟩ : S29) [.string ((rd_T32 l1 x12_1).f0), .string ((rd_T32 l1 x12_1).f1)] (fun _ => True) (fun _ => False) rfl (by first | (go_simp; done) | (go_simp; rfl)) ?aP (fun _ hk => hk.elim) ?aF ?aO ?aB ?aS ?aL ?_; (case aP => exact k29_mkM _ _ _ (⟨(rd_T32 l1 x12_1).f0, (rd_T32 l1 x12_1).f1⟩ : S29)); (case aB => exact (M.up HB)); (case aF => exact (fun _ _ => trivial)); (case aO => exact (by (with_reducible repeat (first | apply Kd.R_alloc | apply Kd.R_drewN | apply Kd.R_drew)); exact Kd.R_mono (Kd.R_far (p := ⟨zcH, 2, none⟩) (Kd.R_far (p := ⟨zcH, 1, none⟩) (Kd.R_far (p := ⟨zcH, 0, none⟩) (Kd.R_types zcF.out zcI.out (by decide)) (fun _ hk => hk.2) (.string ((rd_T32 l1 x12_1).f0))) (fun _ hk => hk.2) (.string ((rd_T32 l1 x12_1).f1))) (fun _ hk => hk.2) (.int .i64 ((rd_T32 l1 x12_1).f2))) (fun _ hk => trivial))); (case aS => exact (below_size (M.up HB))); (case aL => have := LMc10.out; omega); intro v156 w18 ho hb hg hat; rw [← Ny155.out] at ho; have n0_ := Aside0.mk (Kd.R_over' (by (with_reducible repeat (first | apply Kd.R_alloc | apply Kd.R_drewN | apply Kd.R_drew)); exact (Kd.R_mono (Kd.R_far (p := ⟨zcH, 2, none⟩) (Kd.R_far (p := ⟨zcH, 1, none⟩) (Kd.R_far (p := ⟨zcH, 0, none⟩) (Kd.R_types zcG.out zcI.out (by decide)) (fun _ hk => hk.2) (.string ((rd_T32 l1 x12_1).f0))) (fun _ hk => hk.2) (.string ((rd_T32 l1 x12_1).f1))) (fun _ hk => hk.2) (.int .i64 ((rd_T32 l1 x12_1).f2))) (fun _ h_ => h_.1))) (Kd.R_typed (by (with_reducible repeat (first | apply Kd.R_alloc | apply Kd.R_drewN | apply Kd.R_drew)); exact (Kd.R_mono (Kd.R_far (p := ⟨zcH, 2, none⟩) (Kd.R_far (p := ⟨zcH, 1, none⟩) (Kd.R_far (p := ⟨zcH, 0, none⟩) (Kd.R_types zcF.out zcI.out (by decide)) (fun _ hk => hk.2) (.string ((rd_T32 l1 x12_1).f0))) (fun _ hk => hk.2) (.string ((rd_T32 l1 x12_1).f1))) (fun _ hk => hk.2) (.int .i64 ((rd_T32 l1 x12_1).f2))) (fun _ h_ => h_.1)))) (by decide) hg); have n1_ := Aside0.mk (blk_grown (g := zcj) (o := .cells #[.int .i64 0, .slice none 0 0, .slice none 0 0] 25 (0, 0)) (by (with_reducible repeat (first | refine blk_drewN ?_ _ | refine blk_drew ?_ | refine blk_alloc ?_ _)); refine blk_far ?_ zcL.out _; (with_reducible repeat (first | refine blk_drewN ?_ _ | refine blk_drew ?_ | refine blk_alloc ?_ _)); refine blk_far ?_ zcL.out _; (with_reducible repeat (first | refine blk_drewN ?_ _ | refine blk_drew ?_ | refine blk_alloc ?_ _)); refine blk_far ?_ zcL.out _; (with_reducible repeat (first | refine blk_drewN ?_ _ | refine blk_drew ?_ | refine blk_alloc ?_ _)); exact zck.out) hg (Kd.R_ne zcF.out zck.out (by decide))); have n2_ := Aside0.mk (blk_grown (g := zcn) (o := .cells #[.int .i64 a0, zcD, zcE] 25 (0, 0)) (by (with_reducible repeat (first | refine blk_drewN ?_ _ | refine blk_drew ?_ | refine blk_alloc ?_ _)); refine blk_far ?_ zcN.out _; (with_reducible repeat (first | refine blk_drewN ?_ _ | refine blk_drew ?_ | refine blk_alloc ?_ _)); refine blk_far ?_ zcN.out _; (with_reducible repeat (first | refine blk_drewN ?_ _ | refine blk_drew ?_ | refine blk_alloc ?_ _)); refine blk_far ?_ zcN.out _; (with_reducible repeat (first | refine blk_drewN ?_ _ | refine blk_drew ?_ | refine blk_alloc ?_ _)); exact zco.out) hg (Kd.R_ne zcF.out zco.out (by decide))); have n3_ := Aside0.mk (blk_grown (g := zcH) (o := .cells #[.string ((rd_T32 l1 x12_1).f0), .string ((rd_T32 l1 x12_1).f1), .int .i64 ((rd_T32 l1 x12_1).f2)] 32 (0, 0)) (by (with_reducible repeat (first | refine blk_drewN ?_ _ | refine blk_drew ?_ | refine blk_alloc ?_ _)); refine blk_put (cs := #[.string ((rd_T32 l1 x12_1).f0), .string ((rd_T32 l1 x12_1).f1), .int .i64 0]) ?_ 2 _ rfl; (with_reducible repeat (first | refine blk_drewN ?_ _ | refine blk_drew ?_ | refine blk_alloc ?_ _)); refine blk_put (cs := #[.string ((rd_T32 l1 x12_1).f0), .string (⟨#[]⟩ : ByteArray), .int .i64 0]) ?_ 1 _ rfl; (with_reducible repeat (first | refine blk_drewN ?_ _ | refine blk_drew ?_ | refine blk_alloc ?_ _)); refine blk_put (cs := #[.string (⟨#[]⟩ : ByteArray), .string (⟨#[]⟩ : ByteArray), .int .i64 0]) ?_ 0 _ rfl; (with_reducible repeat (first | refine blk_drewN ?_ _ | refine blk_drew ?_ | refine blk_alloc ?_ _)); exact zcI.out) hg (Kd.R_ne zcF.out zcI.out (by decide))); have n4_ := Aside0.mk (hb); have n5_ := Aside0.mk (ho); clear zcG zck zco zcI HB zcF; have zcG := n0_; have zck := n1_; have zco := n2_; have zcI := n3_; have HB := n4_; have HO157 := n5_; clear n0_ n1_ n2_ n3_ n4_ n5_; clear ho hb hg hat; obtain ⟨Ao19, co19, eo19⟩ := Kd.R_slice HO157.out; subst eo19; obtain ⟨zcZ, zc0, zc1⟩ := M.bc3 (w := w18) (a := .int .i64 a0) (b := zcD) (c := zcE) zco.out; obtain ⟨zc2, zc3, zc4⟩ := M.bf3 zco; obtain ⟨zc5, zc6, zc7⟩ := M.bc3 (w := w18) (a := .string ((rd_T32 l1 x12_1).f0)) (b := .string ((rd_T32 l1 x12_1).f1)) (c := .int .i64 ((rd_T32 l1 x12_1).f2)) zcI.out; obtain ⟨zc8, zc9, zda⟩ := M.bf3 zcI) | ((with_reducible refine gate_builtin (b := .append) (xs := #[.tmp 27, .tmp 30]) rfl ?_); at_builtin; refine Kd.R_append (Kd.int .i64) (w0 := w) w.heap.size rfl (.tmp 27) (.tmp 30) 23 3 (.int .i64 0) 8 rfl Try.underlying23 info3 rfl (by decide) (by omega) zcE zcC ((rd_T32 l1 x12_1).f2) [.int .i64 ((rd_T32 l1 x12_1).f2)] (fun _ => True) (fun _ => False) rfl (by first | (go_simp; done) | (go_simp; rfl)) ?aP (fun _ hk => hk.elim) ?aF ?aO ?aB ?aS ?aL ?_; (case aP => exact rfl); (case aB => exact (M.up HB)); (case aF => exact (fun _ _ => trivial)); (case aO => exact (by (with_reducible repeat (first | apply Kd.R_alloc | apply Kd.R_drewN | apply Kd.R_drew)); exact Kd.R_mono (Kd.R_far (p := ⟨zcn, 1, none⟩) (Kd.R_types zcG.out zco.out (by decide)) (fun _ hk => hk.2) (.slice Ao19 y155.length co19)) (fun _ hk => trivial))); (case aS => exact (below_size (M.up HB))); (case aL => have := LMc11.out; omega); intro v159 w22 ho hb hg hat; rw [← Ny158.out] at ho; have n0_ := Aside0.mk (blk_grown (g := zcj) (o := .cells #[.int .i64 0, .slice none 0 0, .slice none 0 0] 25 (0, 0)) (by (with_reducible repeat (first | refine blk_drewN ?_ _ | refine blk_drew ?_ | refine blk_alloc ?_ _)); refine blk_far ?_ zcr.out _; (with_reducible repeat (first | refine blk_drewN ?_ _ | refine blk_drew ?_ | refine blk_alloc ?_ _)); exact zck.out) hg (Kd.R_ne zcG.out zck.out (by decide))); have n1_ := Aside0.mk (blk_grown (g := zcn) (o := .cells #[.int .i64 a0, .slice Ao19 y155.length co19, zcE] 25 (0, 0)) (by (with_reducible repeat (first | refine blk_drewN ?_ _ | refine blk_drew ?_ | refine blk_alloc ?_ _)); refine blk_put (cs := #[.int .i64 a0, zcD, zcE]) ?_ 1 _ rfl; (with_reducible repeat (first | refine blk_drewN ?_ _ | refine blk_drew ?_ | refine blk_alloc ?_ _)); exact zco.out) hg (Kd.R_ne zcG.out zco.out (by decide))); have n2_ := Aside0.mk (blk_grown (g := zcH) (o := .cells #[.string ((rd_T32 l1 x12_1).f0), .string ((rd_T32 l1 x12_1).f1), .int .i64 ((rd_T32 l1 x12_1).f2)] 32 (0, 0)) (by (with_reducible repeat (first | refine blk_drewN ?_ _ | refine blk_drew ?_ | refine blk_alloc ?_ _)); refine blk_far ?_ zcO.out _; (with_reducible repeat (first | refine blk_drewN ?_ _ | refine blk_drew ?_ | refine blk_alloc ?_ _)); exact zcI.out) hg (Kd.R_ne zcG.out zcI.out (by decide))); have n3_ := Aside0.mk (Kd.R_over' (by (with_reducible repeat (first | apply Kd.R_alloc | apply Kd.R_drewN | apply Kd.R_drew)); exact (Kd.R_mono (Kd.R_far (p := ⟨zcn, 1, none⟩) (Kd.R_types HO157.out zco.out (by decide)) (fun _ hk => hk.2) (.slice Ao19 y155.length co19)) (fun _ h_ => h_.1))) (Kd.R_typed (by (with_reducible repeat (first | apply Kd.R_alloc | apply Kd.R_drewN | apply Kd.R_drew)); exact (Kd.R_mono (Kd.R_far (p := ⟨zcn, 1, none⟩) (Kd.R_types zcG.out zco.out (by decide)) (fun _ hk => hk.2) (.slice Ao19 y155.length co19)) (fun _ h_ => h_.1)))) (by decide) hg); have n4_ := Aside0.mk (hb); have n5_ := Aside0.mk (ho); clear zck zco zcI HO157 HB zcG; have zck := n0_; have zco := n1_; have zcI := n2_; have HO157 := n3_; have HB := n4_; have HO160 := n5_; clear n0_ n1_ n2_ n3_ n4_ n5_; clear ho hb hg hat; obtain ⟨Ao23, co23, eo23⟩ := Kd.R_slice HO160.out; subst eo23; obtain ⟨zbe, zbf, zbg⟩ := M.bc3 (w := w22) (a := .int .i64 a0) (b := .slice Ao19 y155.length co19) (c := zcE) zco.out; obtain ⟨zbh, zbi, zbj⟩ := M.bf3 zco))
                go_roundg k1
                case measure => have := HK1.out; omega
                case rel => exact ⟨(wrap64 (x12_1 + 1)), (y155), (y158), (.slice Ao19 y155.length co19), (.slice Ao23 y158.length co23), (by first | rfl | (simp; done) | (simp [*]; done) | (simp [M.isEmpty_bne]; done)), H', ⟨by have := HK1.out; omega⟩, ⟨by (with_reducible repeat (first | apply Kd.R_alloc | apply Kd.R_drewN | apply Kd.R_drew)); exact Kd.R_mono (Kd.R_far (p := ⟨zcn, 2, none⟩) (Kd.R_types HO157.out zco.out (by decide)) (fun _ hk => hk.2) (.slice Ao23 y158.length co23)) (fun _ hk => trivial)⟩, ⟨by (with_reducible repeat (first | apply Kd.R_alloc | apply Kd.R_drewN | apply Kd.R_drew)); exact Kd.R_mono (Kd.R_far (p := ⟨zcn, 2, none⟩) (Kd.R_types HO160.out zco.out (by decide)) (fun _ hk => hk.2) (.slice Ao23 y158.length co23)) (fun _ hk => trivial)⟩, ⟨by (with_reducible repeat (first | refine blk_drewN ?_ _ | refine blk_drew ?_ | refine blk_alloc ?_ _)); refine blk_far ?_ zcr.out _; (with_reducible repeat (first | refine blk_drewN ?_ _ | refine blk_drew ?_ | refine blk_alloc ?_ _)); exact zck.out⟩, ⟨by (with_reducible repeat (first | refine blk_drewN ?_ _ | refine blk_drew ?_ | refine blk_alloc ?_ _)); refine blk_put (cs := #[.int .i64 a0, .slice Ao19 y155.length co19, zcE]) ?_ 2 _ rfl; (with_reducible repeat (first | refine blk_drewN ?_ _ | refine blk_drew ?_ | refine blk_alloc ?_ _)); exact zco.out⟩, ⟨M.up HB⟩⟩
              · rw [if_neg c11] at H
                exact absurd H (by simp)
            · rw [if_neg c10] at H
              exact absurd H (by simp)
          · rw [if_neg c9] at H
            exact absurd H (by simp)
        · rw [if_neg c8] at H
          exact absurd H (by simp)
      · rw [if_neg c7] at H
        have c7b0 : decide (x12_1 < (l1.length : Int)) = false := decide_eq_false c7
        clear c7
        simp only [Option.some.injEq, Prod.mk.injEq] at H
        obtain ⟨rfl, rfl, rfl⟩ := H
        have zbk := zcs.out
        have zbl := zcr.out
        obtain ⟨zbm, zbn, zbo⟩ := M.bc3 (w := wr) (a := .int .i64 a0) (b := zcD) (c := zcE) zco.out
        obtain ⟨zbp, zbq, zbr⟩ := M.bf3 zco
        obtain ⟨zbs, zbt, zbu⟩ := M.bc3 (w := wr) (a := .int .i64 0) (b := .slice none 0 0) (c := .slice none 0 0) zck.out
        obtain ⟨zbv, zbw, zbx⟩ := M.bf3 zck
        obtain ⟨Ao28, co28, eo28⟩ := Kd.R_slice zcF.out
        subst eo28
        obtain ⟨Ao29, co29, eo29⟩ := Kd.R_slice zcG.out
        subst eo29
        go_wp2
        refine bodyPost_ret (results_cell_row rfl _ _ zcj 25 #[.int .i64 a0, .slice Ao28 zcB.length co28, .slice Ao29 zcC.length co29] (0, 0) _ rfl (by (with_reducible repeat (first | refine blk_drewN ?_ _ | refine blk_drew ?_ | refine blk_alloc ?_ _)); refine blk_put (cs := #[.int .i64 a0, .slice Ao28 zcB.length co28, .slice none 0 0]) ?_ 2 _ rfl; (with_reducible repeat (first | refine blk_drewN ?_ _ | refine blk_drew ?_ | refine blk_alloc ?_ _)); refine blk_put (cs := #[.int .i64 a0, .slice none 0 0, .slice none 0 0]) ?_ 1 _ rfl; (with_reducible repeat (first | refine blk_drewN ?_ _ | refine blk_drew ?_ | refine blk_alloc ?_ _)); refine blk_put (cs := #[.int .i64 0, .slice none 0 0, .slice none 0 0]) ?_ 0 _ rfl; (with_reducible repeat (first | refine blk_drewN ?_ _ | refine blk_drew ?_ | refine blk_alloc ?_ _)); exact zck.out) Try.underlying25 rfl (by kernel_rfl)) rfl ?_
        exact ⟨_, _, by first | rfl | (simp [errW_none, errW_some] <;> rfl) | (simp [*, errW_none, errW_some] <;> rfl), by (with_reducible repeat (first | apply Kd.R_alloc | apply Kd.R_drewN | apply Kd.R_drew)); exact Kd.R_mono (Kd.R_far (p := ⟨zcj, 2, none⟩) (Kd.R_far (p := ⟨zcj, 1, none⟩) (Kd.R_far (p := ⟨zcj, 0, none⟩) (Kd.R_types zcF.out zck.out (by decide)) (fun _ hk => hk.2) (.int .i64 a0)) (fun _ hk => hk.2) (.slice Ao28 zcB.length co28)) (fun _ hk => hk.2) (.slice Ao29 zcC.length co29)) (fun _ hk => trivial), by (with_reducible repeat (first | apply Kd.R_alloc | apply Kd.R_drewN | apply Kd.R_drew)); exact Kd.R_mono (Kd.R_far (p := ⟨zcj, 2, none⟩) (Kd.R_far (p := ⟨zcj, 1, none⟩) (Kd.R_far (p := ⟨zcj, 0, none⟩) (Kd.R_types zcG.out zck.out (by decide)) (fun _ hk => hk.2) (.int .i64 a0)) (fun _ hk => hk.2) (.slice Ao28 zcB.length co28)) (fun _ hk => hk.2) (.slice Ao29 zcC.length co29)) (fun _ hk => trivial), M.up HB⟩

end Go.Proofs.Ytccppdpmfegndaa.EChunkTells
