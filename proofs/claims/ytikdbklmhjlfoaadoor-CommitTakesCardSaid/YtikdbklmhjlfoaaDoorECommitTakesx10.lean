-- Written by this session's own program (wip/tools/ext.py) for this claim; Lean checks it.
import Derived.Test.YtikdbklmhjlfoaaDoorECommitTakesx0
namespace Go.Proofs.YtikdbklmhjlfoaaDoor.ECommitTakes
open Go.RowKit Go.Proofs.YtikdbklmhjlfoaaDoorW.PrintWords Go.Proofs.YtikdbklmhjlfoaaDoorW.PrintLast Go.Proofs.YtikdbklmhjlfoaaDoorW.PrintMore
attribute [local go_sem] M.run_leq M.run_gtr M.run_geq max2_int min2_int max_two min_two max_three min_three max_four min_four   -- for this text's walks alone
set_option linter.unusedVariables false
set_option linter.unusedSimpArgs false

/-! ### pleachref35_Same_p: function 11 -/
mutual
def pleachref35_Same_p.j0 : Nat → Bool → Int → List ByteArray → ByteArray → ByteArray → Int → List ByteArray → ByteArray → ByteArray → Option (Bool)
  | 0, _, _, _, _, _, _, _, _, _ => none
  | k + 1, x33, zaa, zab, zac, zad, zae, zaf, zag, zah => if x33 = true then (some false) else (pleachref35_Same_p.l0 k (zab.length : Int) 0 zaa zab zac zad zae zaf zag zah)
def pleachref35_Same_p.l0 : Nat → Int → Int → Int → List ByteArray → ByteArray → ByteArray → Int → List ByteArray → ByteArray → ByteArray → Option (Bool)
  | 0, _, _, _, _, _, _, _, _, _, _ => none
  | k + 1, x36, x37, zaa, zab, zac, zad, zae, zaf, zag, zah => if x37 < x36 then (if 0 ≤ x37 then (if x37 < (zab.length : Int) then (if x37 < (zaf.length : Int) then (if (rdOf ByteArray.empty zab x37).toList = (rdOf ByteArray.empty zaf x37).toList then (pleachref35_Same_p.l0 k x36 (wrap64 (x37 + 1)) zaa zab zac zad zae zaf zag zah) else (some false)) else (none)) else (none)) else (none)) else (some true)
end
def pleachref35_Same_p.f (k : Nat) (a0_0 : Int) (l0_1 : List ByteArray) (a0_2 : ByteArray) (a0_3 : ByteArray) (a1_0 : Int) (l1_1 : List ByteArray) (a1_2 : ByteArray) (a1_3 : ByteArray) : Option (Bool) := if a0_0 = a1_0 then (if a0_2.toList = a1_2.toList then (if a0_3.toList = a1_3.toList then (pleachref35_Same_p.j0 k ((l0_1.length : Int) != (l1_1.length : Int)) a0_0 l0_1 a0_2 a0_3 a1_0 l1_1 a1_2 a1_3) else (pleachref35_Same_p.j0 k true a0_0 l0_1 a0_2 a0_3 a1_0 l1_1 a1_2 a1_3)) else (pleachref35_Same_p.j0 k true a0_0 l0_1 a0_2 a0_3 a1_0 l1_1 a1_2 a1_3)) else (pleachref35_Same_p.j0 k true a0_0 l0_1 a0_2 a0_3 a1_0 l1_1 a1_2 a1_3)
theorem pleachref35_Same_p.mono_l : ∀ k, (∀ y0 y1 y2 y3 y4 y5 y6 y7 y8, LeO (pleachref35_Same_p.j0 k y0 y1 y2 y3 y4 y5 y6 y7 y8) (pleachref35_Same_p.j0 (k + 1) y0 y1 y2 y3 y4 y5 y6 y7 y8)) ∧ (∀ y0 y1 y2 y3 y4 y5 y6 y7 y8 y9, LeO (pleachref35_Same_p.l0 k y0 y1 y2 y3 y4 y5 y6 y7 y8 y9) (pleachref35_Same_p.l0 (k + 1) y0 y1 y2 y3 y4 y5 y6 y7 y8 y9))
  | 0 => ⟨fun _ _ _ _ _ _ _ _ _ r h => by simp [pleachref35_Same_p.j0] at h, fun _ _ _ _ _ _ _ _ _ _ r h => by simp [pleachref35_Same_p.l0] at h⟩
  | k + 1 => by
    obtain ⟨ih0, ih1⟩ := pleachref35_Same_p.mono_l k
    refine ⟨?_, ?_⟩
    · intro y0 y1 y2 y3 y4 y5 y6 y7 y8
      unfold pleachref35_Same_p.j0
      repeat' first
      | (with_reducible exact ih0 _ _ _ _ _ _ _ _ _)
      | (with_reducible exact ih1 _ _ _ _ _ _ _ _ _ _)
      | (with_reducible exact LeO.refl _)
      | (with_reducible exact LeO.none _)
      | (with_reducible refine LeO.ite ?_ ?_)
      | (with_reducible refine LeO.bind ?_ (fun _ => ?_))
      | exact ih0 _ _ _ _ _ _ _ _ _
      | exact ih1 _ _ _ _ _ _ _ _ _ _
      | exact LeO.none _
      | refine LeO.ite ?_ ?_
      | refine LeO.bind ?_ (fun _ => ?_)
    · intro y0 y1 y2 y3 y4 y5 y6 y7 y8 y9
      unfold pleachref35_Same_p.l0
      repeat' first
      | (with_reducible exact ih0 _ _ _ _ _ _ _ _ _)
      | (with_reducible exact ih1 _ _ _ _ _ _ _ _ _ _)
      | (with_reducible exact LeO.refl _)
      | (with_reducible exact LeO.none _)
      | (with_reducible refine LeO.ite ?_ ?_)
      | (with_reducible refine LeO.bind ?_ (fun _ => ?_))
      | exact ih0 _ _ _ _ _ _ _ _ _
      | exact ih1 _ _ _ _ _ _ _ _ _ _
      | exact LeO.none _
      | refine LeO.ite ?_ ?_
      | refine LeO.bind ?_ (fun _ => ?_)
theorem pleachref35_Same_p.mono : ∀ a0 a1 a2 a3 a4 a5 a6 a7 k, LeO (pleachref35_Same_p.f k a0 a1 a2 a3 a4 a5 a6 a7) (pleachref35_Same_p.f (k + 1) a0 a1 a2 a3 a4 a5 a6 a7) := by
  intro a0 a1 a2 a3 a4 a5 a6 a7 k
  obtain ⟨ih0, ih1⟩ := pleachref35_Same_p.mono_l k
  unfold pleachref35_Same_p.f
  repeat' first
      | (with_reducible exact ih0 _ _ _ _ _ _ _ _ _)
      | (with_reducible exact ih1 _ _ _ _ _ _ _ _ _ _)
      | (with_reducible exact LeO.refl _)
      | (with_reducible exact LeO.none _)
      | (with_reducible refine LeO.ite ?_ ?_)
      | (with_reducible refine LeO.bind ?_ (fun _ => ?_))
      | exact ih0 _ _ _ _ _ _ _ _ _
      | exact ih1 _ _ _ _ _ _ _ _ _ _
      | exact LeO.none _
      | refine LeO.ite ?_ ?_
      | refine LeO.bind ?_ (fun _ => ?_)
set_option maxHeartbeats 8000000 in
set_option maxRecDepth 100000 in
theorem pleachref35_Same_p.calls (k : Nat) (a0_0 : Int) (A0_1 : Option Addr) (c0_1 : Nat) (l0_1 : List ByteArray) (a0_2 : ByteArray) (a0_3 : ByteArray) (a1_0 : Int) (A1_1 : Option Addr) (c1_1 : Nat) (l1_1 : List ByteArray) (a1_2 : ByteArray) (a1_3 : ByteArray) (r : Bool) (w : World) (hr0_1 : Kd.C Kd.string w A0_1 l0_1.length l0_1) (hc0_1 : l0_1.length ≤ c0_1) (hr1_1 : Kd.C Kd.string w A1_1 l1_1.length l1_1) (hc1_1 : l1_1.length ≤ c1_1) (h : pleachref35_Same_p.f k a0_0 l0_1 a0_2 a0_3 a1_0 l1_1 a1_2 a1_3 = some r) :
    Calls Tryd.prog 11 #[.agg #[.int .i64 a0_0, .slice A0_1 l0_1.length c0_1, .string a0_2, .string a0_3], .agg #[.int .i64 a1_0, .slice A1_1 l1_1.length c1_1, .string a1_2, .string a1_3]] w fun e w' => e = .returned (.bool r) ∧ Below w.heap.size w w' := by
  have hu24 := Tryd.underlying24
  have HR0_1 := Aside0.mk hr0_1
  have HC0_1 := Aside0.mk hc0_1
  clear hr0_1 hc0_1
  have HR1_1 := Aside0.mk hr1_1
  have HC1_1 := Aside0.mk hc1_1
  clear hr1_1 hc1_1
  have HB := Aside0.mk (Below.refl w.heap.size w)
  have H : (if a0_0 = a1_0 then (if a0_2.toList = a1_2.toList then (if a0_3.toList = a1_3.toList then (pleachref35_Same_p.j0 k ((l0_1.length : Int) != (l1_1.length : Int)) a0_0 l0_1 a0_2 a0_3 a1_0 l1_1 a1_2 a1_3) else (pleachref35_Same_p.j0 k true a0_0 l0_1 a0_2 a0_3 a1_0 l1_1 a1_2 a1_3)) else (pleachref35_Same_p.j0 k true a0_0 l0_1 a0_2 a0_3 a1_0 l1_1 a1_2 a1_3)) else (pleachref35_Same_p.j0 k true a0_0 l0_1 a0_2 a0_3 a1_0 l1_1 a1_2 a1_3)) = some r := h
  clear h
  have HC3 := Aside0.mk H
  clear H
  go_enter Tryd.func11, Tryd.ntmps11
  go_upto_region 1 with (first | ((with_reducible refine gate_dst (N := 2) rfl ?_); (try (refine gate_guard (by rfl) ?_; dsimp only)); refine box_event ?hg (N := 2) ?hd (cs := #[.int .i64 a0_0, .slice A0_1 l0_1.length c0_1, .string a0_2, .string a0_3]) (t := 24) ?hr ?_; (case hd => rfl); (case hg => rfl); (case hr => first | (go_simp; done) | (go_simp; rfl)); intro zai hg w4 hbox hb; have n0_ := M.upS HB hb; have n1_ := Aside0.mk (hbox); have n2_ := M.upG HB hg; have n3_ := M.upG HB hg; clear HB; have HB := n0_; have zaj := n1_; have zak := n2_; have zal := n3_; clear n0_ n1_ n2_ n3_; clear hb hbox hg) | ((with_reducible refine gate_dst (N := 3) rfl ?_); (try (refine gate_guard (by rfl) ?_; dsimp only)); refine box_event ?hg (N := 3) ?hd (cs := #[.int .i64 a1_0, .slice A1_1 l1_1.length c1_1, .string a1_2, .string a1_3]) (t := 24) ?hr ?_; (case hd => rfl); (case hg => rfl); (case hr => first | (go_simp; done) | (go_simp; rfl)); intro zam hg w5 hbox hb; have n0_ := M.bkB zaj hb; have n1_ := M.upS HB hb; have n2_ := Aside0.mk (hbox); have n3_ := M.upG HB hg; have n4_ := M.upG HB hg; have n5_ := M.bkL zaj hg; have n6_ := M.bkG zaj hg; clear zaj HB; have zaj := n0_; have HB := n1_; have zan := n2_; have zao := n3_; have zap := n4_; have zaq := n5_; have zar := n6_; clear n0_ n1_ n2_ n3_ n4_ n5_ n6_; clear hb hbox hg))
  repeat (go_quiet (first | ((with_reducible refine gate_dst (N := 2) rfl ?_); (try (refine gate_guard (by rfl) ?_; dsimp only)); refine box_event ?hg (N := 2) ?hd (cs := #[.int .i64 a0_0, .slice A0_1 l0_1.length c0_1, .string a0_2, .string a0_3]) (t := 24) ?hr ?_; (case hd => rfl); (case hg => rfl); (case hr => first | (go_simp; done) | (go_simp; rfl)); intro zai hg w4 hbox hb; have n0_ := M.upS HB hb; have n1_ := Aside0.mk (hbox); have n2_ := M.upG HB hg; have n3_ := M.upG HB hg; clear HB; have HB := n0_; have zaj := n1_; have zak := n2_; have zal := n3_; clear n0_ n1_ n2_ n3_; clear hb hbox hg) | ((with_reducible refine gate_dst (N := 3) rfl ?_); (try (refine gate_guard (by rfl) ?_; dsimp only)); refine box_event ?hg (N := 3) ?hd (cs := #[.int .i64 a1_0, .slice A1_1 l1_1.length c1_1, .string a1_2, .string a1_3]) (t := 24) ?hr ?_; (case hd => rfl); (case hg => rfl); (case hr => first | (go_simp; done) | (go_simp; rfl)); intro zam hg w5 hbox hb; have n0_ := M.bkB zaj hb; have n1_ := M.upS HB hb; have n2_ := Aside0.mk (hbox); have n3_ := M.upG HB hg; have n4_ := M.upG HB hg; have n5_ := M.bkL zaj hg; have n6_ := M.bkG zaj hg; clear zaj HB; have zaj := n0_; have HB := n1_; have zan := n2_; have zao := n3_; have zap := n4_; have zaq := n5_; have zar := n6_; clear n0_ n1_ n2_ n3_ n4_ n5_ n6_; clear hb hbox hg)); go_upto_region 1 with (first | ((with_reducible refine gate_dst (N := 2) rfl ?_); (try (refine gate_guard (by rfl) ?_; dsimp only)); refine box_event ?hg (N := 2) ?hd (cs := #[.int .i64 a0_0, .slice A0_1 l0_1.length c0_1, .string a0_2, .string a0_3]) (t := 24) ?hr ?_; (case hd => rfl); (case hg => rfl); (case hr => first | (go_simp; done) | (go_simp; rfl)); intro zai hg w4 hbox hb; have n0_ := M.upS HB hb; have n1_ := Aside0.mk (hbox); have n2_ := M.upG HB hg; have n3_ := M.upG HB hg; clear HB; have HB := n0_; have zaj := n1_; have zak := n2_; have zal := n3_; clear n0_ n1_ n2_ n3_; clear hb hbox hg) | ((with_reducible refine gate_dst (N := 3) rfl ?_); (try (refine gate_guard (by rfl) ?_; dsimp only)); refine box_event ?hg (N := 3) ?hd (cs := #[.int .i64 a1_0, .slice A1_1 l1_1.length c1_1, .string a1_2, .string a1_3]) (t := 24) ?hr ?_; (case hd => rfl); (case hg => rfl); (case hr => first | (go_simp; done) | (go_simp; rfl)); intro zam hg w5 hbox hb; have n0_ := M.bkB zaj hb; have n1_ := M.upS HB hb; have n2_ := Aside0.mk (hbox); have n3_ := M.upG HB hg; have n4_ := M.upG HB hg; have n5_ := M.bkL zaj hg; have n6_ := M.bkG zaj hg; clear zaj HB; have zaj := n0_; have HB := n1_; have zan := n2_; have zao := n3_; have zap := n4_; have zaq := n5_; have zar := n6_; clear n0_ n1_ n2_ n3_ n4_ n5_ n6_; clear hb hbox hg)))
  (try simp only [Act.put, List.setIfInBounds_toArray, List.set_cons_zero, List.set_cons_succ])
  go_cut [33] (fun v33 wc => ∃ (kq : Nat) (x33_2 : Bool), v33 = .bool x33_2 ∧ Aside0 (pleachref35_Same_p.j0 kq x33_2 a0_0 l0_1 a0_2 a0_3 a1_0 l1_1 a1_2 a1_3 = some r) ∧ Aside0 (kq ≤ k) ∧ Aside0 (wc.heap[zai]? = some (.cells #[.int .i64 a0_0, (.slice A0_1 l0_1.length c0_1), .string a0_2, .string a0_3] 24 (0, 0))) ∧ Aside0 (wc.heap[zam]? = some (.cells #[.int .i64 a1_0, (.slice A1_1 l1_1.length c1_1), .string a1_2, .string a1_3] 24 (0, 0))) ∧ Aside0 (Below w.heap.size w wc))
  case first =>
    have H := HC3.out
    clear HC3
    by_cases c6 : a0_0 = a1_0
    · rw [if_pos c6] at H
      have c6b0 : (a0_0 == a1_0) = true := beq_iff_eq.mpr c6
      have c6b1 : (a0_0 != a1_0) = false := bne_eq_false_iff_eq.mpr c6
      clear c6
      (first | rw [c6b0] | (simp only [i64_w, i32_w]; rw [c6b0]) | skip)
      by_cases c7 : a0_2.toList = a1_2.toList
      · rw [if_pos c7] at H
        have c7b0 : (a0_2.toList == a1_2.toList) = true := beq_iff_eq.mpr c7
        have c7b1 : (a0_2.toList != a1_2.toList) = false := bne_eq_false_iff_eq.mpr c7
        clear c7
        by_cases c8 : a0_3.toList = a1_3.toList
        · rw [if_pos c8] at H
          have c8b0 : (a0_3.toList == a1_3.toList) = true := beq_iff_eq.mpr c8
          have c8b1 : (a0_3.toList != a1_3.toList) = false := bne_eq_false_iff_eq.mpr c8
          clear c8
          have H' := Aside0.mk H
          clear H
          have zas := zaq.out
          have zat := zar.out
          have zau : w5.cell? ⟨zai, 0, none⟩ = some (.int .i64 a0_0) := (blk_cell zaj.out 0).trans rfl
          have zav : w5.cell? ⟨zai, 1, none⟩ = some (.slice A0_1 l0_1.length c0_1) := (blk_cell zaj.out 1).trans rfl
          have zaw : w5.cell? ⟨zai, 2, none⟩ = some (.string a0_2) := (blk_cell zaj.out 2).trans rfl
          have zax : w5.cell? ⟨zai, 3, none⟩ = some (.string a0_3) := (blk_cell zaj.out 3).trans rfl
          have zay := blk_frozen zaj.out 0
          have zaz := blk_frozen zaj.out 1
          have zaA := blk_frozen zaj.out 2
          have zaB := blk_frozen zaj.out 3
          have zaC : w5.cell? ⟨zam, 0, none⟩ = some (.int .i64 a1_0) := (blk_cell zan.out 0).trans rfl
          have zaD : w5.cell? ⟨zam, 1, none⟩ = some (.slice A1_1 l1_1.length c1_1) := (blk_cell zan.out 1).trans rfl
          have zaE : w5.cell? ⟨zam, 2, none⟩ = some (.string a1_2) := (blk_cell zan.out 2).trans rfl
          have zaF : w5.cell? ⟨zam, 3, none⟩ = some (.string a1_3) := (blk_cell zan.out 3).trans rfl
          have zaG := blk_frozen zan.out 0
          have zaH := blk_frozen zan.out 1
          have zaI := blk_frozen zan.out 2
          have zaJ := blk_frozen zan.out 3
          go_wp2
          repeat (go_quiet (fail); try go_wp2)
          go_meet
          case rel => exact ⟨_, (((l0_1.length : Int) != (l1_1.length : Int))), (by first | rfl | (simp; done) | (simp [*]; done) | (simp [M.isEmpty_bne]; done)), H', ⟨by first | omega | exact Nat.le_refl _⟩, ⟨by (with_reducible repeat (first | refine blk_drewN ?_ _ | refine blk_drew ?_ | refine blk_alloc ?_ _)); exact zaj.out⟩, ⟨by (with_reducible repeat (first | refine blk_drewN ?_ _ | refine blk_drew ?_ | refine blk_alloc ?_ _)); exact zan.out⟩, ⟨M.up HB⟩⟩
        · rw [if_neg c8] at H
          have c8b0 : (a0_3.toList == a1_3.toList) = false := beq_eq_false_iff_ne.mpr c8
          have c8b1 : (a0_3.toList != a1_3.toList) = true := bne_iff_ne.mpr c8
          have H' := Aside0.mk H
          clear H
          have zaK := zaq.out
          have zaL := zar.out
          have zaM : w5.cell? ⟨zai, 0, none⟩ = some (.int .i64 a0_0) := (blk_cell zaj.out 0).trans rfl
          have zaN : w5.cell? ⟨zai, 1, none⟩ = some (.slice A0_1 l0_1.length c0_1) := (blk_cell zaj.out 1).trans rfl
          have zaO : w5.cell? ⟨zai, 2, none⟩ = some (.string a0_2) := (blk_cell zaj.out 2).trans rfl
          have zaP : w5.cell? ⟨zai, 3, none⟩ = some (.string a0_3) := (blk_cell zaj.out 3).trans rfl
          have zaQ := blk_frozen zaj.out 0
          have zaR := blk_frozen zaj.out 1
          have zaS := blk_frozen zaj.out 2
          have zaT := blk_frozen zaj.out 3
          have zaU : w5.cell? ⟨zam, 0, none⟩ = some (.int .i64 a1_0) := (blk_cell zan.out 0).trans rfl
          have zaV : w5.cell? ⟨zam, 1, none⟩ = some (.slice A1_1 l1_1.length c1_1) := (blk_cell zan.out 1).trans rfl
          have zaW : w5.cell? ⟨zam, 2, none⟩ = some (.string a1_2) := (blk_cell zan.out 2).trans rfl
          have zaX : w5.cell? ⟨zam, 3, none⟩ = some (.string a1_3) := (blk_cell zan.out 3).trans rfl
          have zaY := blk_frozen zan.out 0
          have zaZ := blk_frozen zan.out 1
          have za0 := blk_frozen zan.out 2
          have za1 := blk_frozen zan.out 3
          go_wp2
          repeat (go_quiet (fail); try go_wp2)
          go_meet
          case rel => exact ⟨_, (true), (by first | rfl | (simp; done) | (simp [*]; done) | (simp [M.isEmpty_bne]; done)), H', ⟨by first | omega | exact Nat.le_refl _⟩, ⟨by (with_reducible repeat (first | refine blk_drewN ?_ _ | refine blk_drew ?_ | refine blk_alloc ?_ _)); exact zaj.out⟩, ⟨by (with_reducible repeat (first | refine blk_drewN ?_ _ | refine blk_drew ?_ | refine blk_alloc ?_ _)); exact zan.out⟩, ⟨M.up HB⟩⟩
      · rw [if_neg c7] at H
        have c7b0 : (a0_2.toList == a1_2.toList) = false := beq_eq_false_iff_ne.mpr c7
        have c7b1 : (a0_2.toList != a1_2.toList) = true := bne_iff_ne.mpr c7
        have H' := Aside0.mk H
        clear H
        have za2 := zaq.out
        have za3 := zar.out
        have za4 : w5.cell? ⟨zai, 0, none⟩ = some (.int .i64 a0_0) := (blk_cell zaj.out 0).trans rfl
        have za5 : w5.cell? ⟨zai, 1, none⟩ = some (.slice A0_1 l0_1.length c0_1) := (blk_cell zaj.out 1).trans rfl
        have za6 : w5.cell? ⟨zai, 2, none⟩ = some (.string a0_2) := (blk_cell zaj.out 2).trans rfl
        have za7 : w5.cell? ⟨zai, 3, none⟩ = some (.string a0_3) := (blk_cell zaj.out 3).trans rfl
        have za8 := blk_frozen zaj.out 0
        have za9 := blk_frozen zaj.out 1
        have zba := blk_frozen zaj.out 2
        have zbb := blk_frozen zaj.out 3
        have zbc : w5.cell? ⟨zam, 0, none⟩ = some (.int .i64 a1_0) := (blk_cell zan.out 0).trans rfl
        have zbd : w5.cell? ⟨zam, 1, none⟩ = some (.slice A1_1 l1_1.length c1_1) := (blk_cell zan.out 1).trans rfl
        have zbe : w5.cell? ⟨zam, 2, none⟩ = some (.string a1_2) := (blk_cell zan.out 2).trans rfl
        have zbf : w5.cell? ⟨zam, 3, none⟩ = some (.string a1_3) := (blk_cell zan.out 3).trans rfl
        have zbg := blk_frozen zan.out 0
        have zbh := blk_frozen zan.out 1
        have zbi := blk_frozen zan.out 2
        have zbj := blk_frozen zan.out 3
        go_wp2
        repeat (go_quiet (fail); try go_wp2)
        go_meet
        case rel => exact ⟨_, (true), (by first | rfl | (simp; done) | (simp [*]; done) | (simp [M.isEmpty_bne]; done)), H', ⟨by first | omega | exact Nat.le_refl _⟩, ⟨by (with_reducible repeat (first | refine blk_drewN ?_ _ | refine blk_drew ?_ | refine blk_alloc ?_ _)); exact zaj.out⟩, ⟨by (with_reducible repeat (first | refine blk_drewN ?_ _ | refine blk_drew ?_ | refine blk_alloc ?_ _)); exact zan.out⟩, ⟨M.up HB⟩⟩
    · rw [if_neg c6] at H
      have c6b0 : (a0_0 == a1_0) = false := beq_eq_false_iff_ne.mpr c6
      have c6b1 : (a0_0 != a1_0) = true := bne_iff_ne.mpr c6
      (first | rw [c6b0] | (simp only [i64_w, i32_w]; rw [c6b0]) | skip)
      have H' := Aside0.mk H
      clear H
      have zbk := zaq.out
      have zbl := zar.out
      have zbm : w5.cell? ⟨zai, 0, none⟩ = some (.int .i64 a0_0) := (blk_cell zaj.out 0).trans rfl
      have zbn : w5.cell? ⟨zai, 1, none⟩ = some (.slice A0_1 l0_1.length c0_1) := (blk_cell zaj.out 1).trans rfl
      have zbo : w5.cell? ⟨zai, 2, none⟩ = some (.string a0_2) := (blk_cell zaj.out 2).trans rfl
      have zbp : w5.cell? ⟨zai, 3, none⟩ = some (.string a0_3) := (blk_cell zaj.out 3).trans rfl
      have zbq := blk_frozen zaj.out 0
      have zbr := blk_frozen zaj.out 1
      have zbs := blk_frozen zaj.out 2
      have zbt := blk_frozen zaj.out 3
      have zbu : w5.cell? ⟨zam, 0, none⟩ = some (.int .i64 a1_0) := (blk_cell zan.out 0).trans rfl
      have zbv : w5.cell? ⟨zam, 1, none⟩ = some (.slice A1_1 l1_1.length c1_1) := (blk_cell zan.out 1).trans rfl
      have zbw : w5.cell? ⟨zam, 2, none⟩ = some (.string a1_2) := (blk_cell zan.out 2).trans rfl
      have zbx : w5.cell? ⟨zam, 3, none⟩ = some (.string a1_3) := (blk_cell zan.out 3).trans rfl
      have zby := blk_frozen zan.out 0
      have zbz := blk_frozen zan.out 1
      have zbA := blk_frozen zan.out 2
      have zbB := blk_frozen zan.out 3
      go_wp2
      repeat (go_quiet (fail); try go_wp2)
      go_meet
      case rel => exact ⟨_, (true), (by first | rfl | (simp; done) | (simp [*]; done) | (simp [M.isEmpty_bne]; done)), H', ⟨by first | omega | exact Nat.le_refl _⟩, ⟨by (with_reducible repeat (first | refine blk_drewN ?_ _ | refine blk_drew ?_ | refine blk_alloc ?_ _)); exact zaj.out⟩, ⟨by (with_reducible repeat (first | refine blk_drewN ?_ _ | refine blk_drew ?_ | refine blk_alloc ?_ _)); exact zan.out⟩, ⟨M.up HB⟩⟩
  case rest =>
    clear HC3
    try clear c1
    try clear p2
    try clear c6
    try clear c6b0
    try clear c6b1
    try clear c7
    try clear c7b0
    try clear c7b1
    try clear c8
    try clear c8b0
    try clear c8b1
    try clear c9
    try clear c11
    try clear c12
    try clear c15
    try clear c18
    try clear zau
    try clear zav
    try clear zaw
    try clear zax
    try clear zaC
    try clear zaD
    try clear zaE
    try clear zaF
    try clear zaM
    try clear zaN
    try clear zaO
    try clear zaP
    try clear zaU
    try clear zaV
    try clear zaW
    try clear zaX
    try clear za4
    try clear za5
    try clear za6
    try clear za7
    try clear zbc
    try clear zbd
    try clear zbe
    try clear zbf
    try clear zbm
    try clear zbn
    try clear zbo
    try clear zbp
    try clear zbu
    try clear zbv
    try clear zbw
    try clear zbx
    try clear zay
    try clear zaz
    try clear zaA
    try clear zaB
    try clear zaG
    try clear zaH
    try clear zaI
    try clear zaJ
    try clear zaQ
    try clear zaR
    try clear zaS
    try clear zaT
    try clear zaY
    try clear zaZ
    try clear za0
    try clear za1
    try clear za8
    try clear za9
    try clear zba
    try clear zbb
    try clear zbg
    try clear zbh
    try clear zbi
    try clear zbj
    try clear zbq
    try clear zbr
    try clear zbs
    try clear zbt
    try clear zby
    try clear zbz
    try clear zbA
    try clear zbB
    obtain ⟨kq, x33_2, rfl, HA, HJ2, zaj, zan, HB⟩ := hcut
    cases kq with
    | zero => exact absurd HA.out (by simp [pleachref35_Same_p.j0])
    | succ kj2 =>
      have H := HA.out
      clear HA
      simp only [pleachref35_Same_p.j0] at H
      by_cases c21 : x33_2 = true
      · subst c21
        have H1 : (some false) = some r := by rw [if_pos rfl] at H; exact H
        clear H
        have H := H1
        clear H1
        obtain rfl := Option.some.inj H
        go_wp2
        repeat (go_quiet (fail); try go_wp2)
        go_ret
        exact M.fin (M.up HB)
      · replace c21 := Bool.eq_false_iff.mpr c21
        subst c21
        have H1 : (pleachref35_Same_p.l0 kj2 (l0_1.length : Int) 0 a0_0 l0_1 a0_2 a0_3 a1_0 l1_1 a1_2 a1_3) = some r := by rw [if_neg (show ¬ (false = true) by decide)] at H; exact H
        clear H
        have H := H1
        clear H1
        have H' := Aside0.mk H
        clear H
        have zbC := zaq.out
        have zbD := zar.out
        have zbE : wc.cell? ⟨zai, 0, none⟩ = some (.int .i64 a0_0) := (blk_cell zaj.out 0).trans rfl
        have zbF : wc.cell? ⟨zai, 1, none⟩ = some (.slice A0_1 l0_1.length c0_1) := (blk_cell zaj.out 1).trans rfl
        have zbG : wc.cell? ⟨zai, 2, none⟩ = some (.string a0_2) := (blk_cell zaj.out 2).trans rfl
        have zbH : wc.cell? ⟨zai, 3, none⟩ = some (.string a0_3) := (blk_cell zaj.out 3).trans rfl
        have zbI := blk_frozen zaj.out 0
        have zbJ := blk_frozen zaj.out 1
        have zbK := blk_frozen zaj.out 2
        have zbL := blk_frozen zaj.out 3
        go_wp2
        repeat (go_quiet (fail); try go_wp2)
        go_loopg [37] kj2 (fun kq v37 w' => ∃ (x37_2 : Int), v37 = .int .i64 x37_2 ∧ Aside0 (pleachref35_Same_p.l0 kq (l0_1.length : Int) x37_2 a0_0 l0_1 a0_2 a0_3 a1_0 l1_1 a1_2 a1_3 = some r) ∧ Aside0 (kq ≤ kj2) ∧ Aside0 (w'.heap[zai]? = some (.cells #[.int .i64 a0_0, (.slice A0_1 l0_1.length c0_1), .string a0_2, .string a0_3] 24 (0, 0))) ∧ Aside0 (w'.heap[zam]? = some (.cells #[.int .i64 a1_0, (.slice A1_1 l1_1.length c1_1), .string a1_2, .string a1_3] 24 (0, 0))) ∧ Aside0 (Below w.heap.size w w'))
        case atStart => exact ⟨(0), (by first | rfl | (simp; done) | (simp [*]; done) | (simp [M.isEmpty_bne]; done)), H', ⟨Nat.le_refl _⟩, ⟨by (with_reducible repeat (first | refine blk_drewN ?_ _ | refine blk_drew ?_ | refine blk_alloc ?_ _)); exact zaj.out⟩, ⟨by (with_reducible repeat (first | refine blk_drewN ?_ _ | refine blk_drew ?_ | refine blk_alloc ?_ _)); exact zan.out⟩, ⟨M.up HB⟩⟩
        case round =>
          clear H'
          try clear c1
          try clear c2
          try clear p2
          try clear c6
          try clear c6b0
          try clear c6b1
          try clear c7
          try clear c7b0
          try clear c7b1
          try clear c8
          try clear c8b0
          try clear c8b1
          try clear c9
          try clear c11
          try clear c12
          try clear c15
          try clear c18
          try clear c21
          try clear c22
          try clear zau
          try clear zav
          try clear zaw
          try clear zax
          try clear zaC
          try clear zaD
          try clear zaE
          try clear zaF
          try clear zaM
          try clear zaN
          try clear zaO
          try clear zaP
          try clear zaU
          try clear zaV
          try clear zaW
          try clear zaX
          try clear za4
          try clear za5
          try clear za6
          try clear za7
          try clear zbc
          try clear zbd
          try clear zbe
          try clear zbf
          try clear zbm
          try clear zbn
          try clear zbo
          try clear zbp
          try clear zbu
          try clear zbv
          try clear zbw
          try clear zbx
          try clear zbE
          try clear zbF
          try clear zbG
          try clear zbH
          try clear zay
          try clear zaz
          try clear zaA
          try clear zaB
          try clear zaG
          try clear zaH
          try clear zaI
          try clear zaJ
          try clear zaQ
          try clear zaR
          try clear zaS
          try clear zaT
          try clear zaY
          try clear zaZ
          try clear za0
          try clear za1
          try clear za8
          try clear za9
          try clear zba
          try clear zbb
          try clear zbg
          try clear zbh
          try clear zbi
          try clear zbj
          try clear zbq
          try clear zbr
          try clear zbs
          try clear zbt
          try clear zby
          try clear zbz
          try clear zbA
          try clear zbB
          try clear zbI
          try clear zbJ
          try clear zbK
          try clear zbL
          try clear p2
          obtain ⟨x37_2, rfl, HA, HK2, zaj, zan, HB⟩ := hrel
          cases gk with
          | zero => exact absurd HA.out (by simp [pleachref35_Same_p.l0])
          | succ k2 =>
            have H := HA.out
            clear HA
            simp only [pleachref35_Same_p.l0] at H
            by_cases c24 : x37_2 < (l0_1.length : Int)
            · rw [if_pos c24] at H
              have c24b0 : decide (x37_2 < (l0_1.length : Int)) = true := decide_eq_true c24
              clear c24
              by_cases c25 : 0 ≤ x37_2
              · rw [if_pos c25] at H
                have c25b0 : decide (0 ≤ x37_2) = true := decide_eq_true c25
                clear c25
                by_cases c26 : x37_2 < (l0_1.length : Int)
                · rw [if_pos c26] at H
                  have c26b0 : decide (x37_2 < (l0_1.length : Int)) = true := decide_eq_true c26
                  clear c26
                  by_cases c27 : x37_2 < (l1_1.length : Int)
                  · rw [if_pos c27] at H
                    have c27b0 : decide (x37_2 < (l1_1.length : Int)) = true := decide_eq_true c27
                    clear c27
                    by_cases c28 : (rdOf ByteArray.empty l0_1 x37_2).toList = (rdOf ByteArray.empty l1_1 x37_2).toList
                    · rw [if_pos c28] at H
                      have c28b0 : ((rdOf ByteArray.empty l0_1 x37_2).toList == (rdOf ByteArray.empty l1_1 x37_2).toList) = true := beq_iff_eq.mpr c28
                      have c28b1 : ((rdOf ByteArray.empty l0_1 x37_2).toList != (rdOf ByteArray.empty l1_1 x37_2).toList) = false := bne_eq_false_iff_eq.mpr c28
                      clear c28
                      have H' := Aside0.mk H
                      clear H
                      have zbM := zaq.out
                      have zbN := zar.out
                      have zbO : wr.cell? ⟨zai, 0, none⟩ = some (.int .i64 a0_0) := (blk_cell zaj.out 0).trans rfl
                      have zbP : wr.cell? ⟨zai, 1, none⟩ = some (.slice A0_1 l0_1.length c0_1) := (blk_cell zaj.out 1).trans rfl
                      have zbQ : wr.cell? ⟨zai, 2, none⟩ = some (.string a0_2) := (blk_cell zaj.out 2).trans rfl
                      have zbR : wr.cell? ⟨zai, 3, none⟩ = some (.string a0_3) := (blk_cell zaj.out 3).trans rfl
                      have zbS := blk_frozen zaj.out 0
                      have zbT := blk_frozen zaj.out 1
                      have zbU := blk_frozen zaj.out 2
                      have zbV := blk_frozen zaj.out 3
                      have p275 : 0 ≤ (x37_2 : Int) := of_decide_eq_true (by first | (with_reducible assumption) | assumption)
                      have q275 : x37_2 < (l0_1.length : Int) := of_decide_eq_true (by first | (with_reducible assumption) | assumption)
                      obtain ⟨ad275, e275, hx275_0⟩ := Kd.at_string HR0_1.out x37_2 p275 q275
                      cases e275
                      replace hx275_0 := (HB.out.cell (World.block_lt_of_cell? w _ hx275_0)).trans hx275_0
                      replace p275 := eq_true p275
                      replace q275 := eq_true q275
                      have zbW : wr.cell? ⟨zam, 0, none⟩ = some (.int .i64 a1_0) := (blk_cell zan.out 0).trans rfl
                      have zbX : wr.cell? ⟨zam, 1, none⟩ = some (.slice A1_1 l1_1.length c1_1) := (blk_cell zan.out 1).trans rfl
                      have zbY : wr.cell? ⟨zam, 2, none⟩ = some (.string a1_2) := (blk_cell zan.out 2).trans rfl
                      have zbZ : wr.cell? ⟨zam, 3, none⟩ = some (.string a1_3) := (blk_cell zan.out 3).trans rfl
                      have zb0 := blk_frozen zan.out 0
                      have zb1 := blk_frozen zan.out 1
                      have zb2 := blk_frozen zan.out 2
                      have zb3 := blk_frozen zan.out 3
                      have p276 : 0 ≤ (x37_2 : Int) := of_decide_eq_true (by first | (with_reducible assumption) | assumption)
                      have q276 : x37_2 < (l1_1.length : Int) := of_decide_eq_true (by first | (with_reducible assumption) | assumption)
                      obtain ⟨ad276, e276, hx276_0⟩ := Kd.at_string HR1_1.out x37_2 p276 q276
                      cases e276
                      replace hx276_0 := (HB.out.cell (World.block_lt_of_cell? w _ hx276_0)).trans hx276_0
                      replace p276 := eq_true p276
                      replace q276 := eq_true q276
                      go_wp2
                      repeat (go_quiet (fail); try go_wp2)
                      go_roundg k2
                      case measure => have := HJ2.out; have := HK2.out; omega
                      case rel => exact ⟨(wrap64 (x37_2 + 1)), (by first | rfl | (simp; done) | (simp [*]; done) | (simp [M.isEmpty_bne]; done)), H', ⟨by have := HJ2.out; have := HK2.out; omega⟩, ⟨by (with_reducible repeat (first | refine blk_drewN ?_ _ | refine blk_drew ?_ | refine blk_alloc ?_ _)); exact zaj.out⟩, ⟨by (with_reducible repeat (first | refine blk_drewN ?_ _ | refine blk_drew ?_ | refine blk_alloc ?_ _)); exact zan.out⟩, ⟨M.up HB⟩⟩
                    · rw [if_neg c28] at H
                      have c28b0 : ((rdOf ByteArray.empty l0_1 x37_2).toList == (rdOf ByteArray.empty l1_1 x37_2).toList) = false := beq_eq_false_iff_ne.mpr c28
                      have c28b1 : ((rdOf ByteArray.empty l0_1 x37_2).toList != (rdOf ByteArray.empty l1_1 x37_2).toList) = true := bne_iff_ne.mpr c28
                      obtain rfl := Option.some.inj H
                      have zb4 := zaq.out
                      have zb5 := zar.out
                      have zb6 : wr.cell? ⟨zai, 0, none⟩ = some (.int .i64 a0_0) := (blk_cell zaj.out 0).trans rfl
                      have zb7 : wr.cell? ⟨zai, 1, none⟩ = some (.slice A0_1 l0_1.length c0_1) := (blk_cell zaj.out 1).trans rfl
                      have zb8 : wr.cell? ⟨zai, 2, none⟩ = some (.string a0_2) := (blk_cell zaj.out 2).trans rfl
                      have zb9 : wr.cell? ⟨zai, 3, none⟩ = some (.string a0_3) := (blk_cell zaj.out 3).trans rfl
                      have zca := blk_frozen zaj.out 0
                      have zcb := blk_frozen zaj.out 1
                      have zcc := blk_frozen zaj.out 2
                      have zcd := blk_frozen zaj.out 3
                      have p275 : 0 ≤ (x37_2 : Int) := of_decide_eq_true (by first | (with_reducible assumption) | assumption)
                      have q275 : x37_2 < (l0_1.length : Int) := of_decide_eq_true (by first | (with_reducible assumption) | assumption)
                      obtain ⟨ad275, e275, hx275_0⟩ := Kd.at_string HR0_1.out x37_2 p275 q275
                      cases e275
                      replace hx275_0 := (HB.out.cell (World.block_lt_of_cell? w _ hx275_0)).trans hx275_0
                      replace p275 := eq_true p275
                      replace q275 := eq_true q275
                      have zce : wr.cell? ⟨zam, 0, none⟩ = some (.int .i64 a1_0) := (blk_cell zan.out 0).trans rfl
                      have zcf : wr.cell? ⟨zam, 1, none⟩ = some (.slice A1_1 l1_1.length c1_1) := (blk_cell zan.out 1).trans rfl
                      have zcg : wr.cell? ⟨zam, 2, none⟩ = some (.string a1_2) := (blk_cell zan.out 2).trans rfl
                      have zch : wr.cell? ⟨zam, 3, none⟩ = some (.string a1_3) := (blk_cell zan.out 3).trans rfl
                      have zci := blk_frozen zan.out 0
                      have zcj := blk_frozen zan.out 1
                      have zck := blk_frozen zan.out 2
                      have zcl := blk_frozen zan.out 3
                      have p276 : 0 ≤ (x37_2 : Int) := of_decide_eq_true (by first | (with_reducible assumption) | assumption)
                      have q276 : x37_2 < (l1_1.length : Int) := of_decide_eq_true (by first | (with_reducible assumption) | assumption)
                      obtain ⟨ad276, e276, hx276_0⟩ := Kd.at_string HR1_1.out x37_2 p276 q276
                      cases e276
                      replace hx276_0 := (HB.out.cell (World.block_lt_of_cell? w _ hx276_0)).trans hx276_0
                      replace p276 := eq_true p276
                      replace q276 := eq_true q276
                      go_wp2
                      repeat (go_quiet (fail); try go_wp2)
                      go_ret
                      exact M.fin (M.up HB)
                  · rw [if_neg c27] at H
                    exact absurd H (by simp)
                · rw [if_neg c26] at H
                  exact absurd H (by simp)
              · rw [if_neg c25] at H
                exact absurd H (by simp)
            · rw [if_neg c24] at H
              have c24b0 : decide (x37_2 < (l0_1.length : Int)) = false := decide_eq_false c24
              clear c24
              obtain rfl := Option.some.inj H
              go_wp2
              repeat (go_quiet (fail); try go_wp2)
              go_ret
              exact M.fin (M.up HB)

-- this session's own plain form
def pleachref35_Same.f (a0_0 : Int) (l0_1 : List ByteArray) (a0_2 : ByteArray) (a0_3 : ByteArray) (a1_0 : Int) (l1_1 : List ByteArray) (a1_2 : ByteArray) (a1_3 : ByteArray) : Option Bool :=
  if l0_1.length ≤ 9223372036854775806 then some (decide (a0_0 = a1_0 ∧ a0_2 = a1_2 ∧ a0_3 = a1_3 ∧ l0_1 = l1_1)) else none
theorem pleachref35_Same.eq_ {a b : ByteArray} : a.toList = b.toList ↔ a = b := ⟨fun h => M.bs_inj (by rw [← M.toList_bs, ← M.toList_bs, h]), fun h => by rw [h]⟩
theorem pleachref35_Same.loop (n : Int) (ps : List ByteArray) (g note : ByteArray) (n2 : Int) (qs : List ByteArray) (g2 note2 : ByteArray) (hl : ps.length ≤ 9223372036854775806) (he : ps.length = qs.length) (d : Nat) : ∀ (i : Nat), i + d = ps.length →
    pleachref35_Same_p.l0 (d + 1) (ps.length : Int) (i : Int) n ps g note n2 qs g2 note2 = some (decide (ps.drop i = qs.drop i)) := by
  induction d with
  | zero =>
    intro i hi
    rw [pleachref35_Same_p.l0, if_neg (by omega), List.drop_of_length_le (by omega), List.drop_of_length_le (by omega), decide_eq_true rfl]
  | succ d ih =>
    intro i hi
    have h1 : i < ps.length := by omega
    have h2 : i < qs.length := by omega
    have r1 : rdOf ByteArray.empty ps (i : Int) = ps[i] := by simp [rdOf, List.getD, h1]
    have r2 : rdOf ByteArray.empty qs (i : Int) = qs[i] := by simp [rdOf, List.getD, h2]
    rw [pleachref35_Same_p.l0, if_pos (by omega), if_pos (by omega), if_pos (by omega), if_pos (by omega), r1, r2, List.drop_eq_getElem_cons h1, List.drop_eq_getElem_cons h2]
    by_cases c : ps[i] = qs[i]
    · rw [if_pos (pleachref35_Same.eq_.2 c), M.wrap64_id (by omega) (by omega), show (i : Int) + 1 = ((i + 1 : Nat) : Int) from by omega, ih (i + 1) (by omega)]
      congr 1
      exact decide_eq_decide.2 ⟨fun h => by rw [c, h], fun h => by injection h⟩
    · rw [if_neg (fun z => c (pleachref35_Same.eq_.1 z)), decide_eq_false (fun z => c (by injection z))]
theorem pleachref35_Same.ev (n : Int) (ps : List ByteArray) (g note : ByteArray) (n2 : Int) (qs : List ByteArray) (g2 note2 : ByteArray) (r : Bool) (h : pleachref35_Same.f n ps g note n2 qs g2 note2 = some r) : ∃ k, pleachref35_Same_p.f k n ps g note n2 qs g2 note2 = some r := by
  unfold pleachref35_Same.f at h
  split at h
  case isFalse => cases h
  case isTrue hl =>
    obtain rfl := Option.some.inj h
    refine ⟨ps.length + 1 + 1, ?_⟩
    unfold pleachref35_Same_p.f
    have hf : ∀ b, pleachref35_Same_p.j0 (ps.length + 1 + 1) b n ps g note n2 qs g2 note2 = if b = true then some false else pleachref35_Same_p.l0 (ps.length + 1) (ps.length : Int) 0 n ps g note n2 qs g2 note2 := fun b => by rw [pleachref35_Same_p.j0]
    rw [hf, hf]
    by_cases c1 : n = n2
    · rw [if_pos c1]
      by_cases c2 : g = g2
      · rw [if_pos (pleachref35_Same.eq_.2 c2)]
        by_cases c3 : note = note2
        · rw [if_pos (pleachref35_Same.eq_.2 c3)]
          by_cases c4 : ps.length = qs.length
          · rw [if_neg (by simp [c4])]
            have := pleachref35_Same.loop n ps g note n2 qs g2 note2 hl c4 ps.length 0 (by omega)
            rw [show ((0 : Nat) : Int) = 0 from rfl, List.drop_zero, List.drop_zero] at this
            rw [this]
            congr 1
            exact decide_eq_decide.2 ⟨fun h => ⟨c1, c2, c3, h⟩, fun h => h.2.2.2⟩
          · rw [if_pos (bne_iff_ne.2 (by omega)), decide_eq_false (fun z => c4 (by rw [z.2.2.2]))]
        · rw [if_neg (fun z => c3 (pleachref35_Same.eq_.1 z)), if_pos rfl, decide_eq_false (fun z => c3 z.2.2.1)]
      · rw [if_neg (fun z => c2 (pleachref35_Same.eq_.1 z)), if_pos rfl, decide_eq_false (fun z => c2 z.2.1)]
    · rw [if_neg c1, if_pos rfl, decide_eq_false (fun z => c1 z.1)]
theorem pleachref35_Same.calls (a0_0 : Int) (A0_1 : Option Addr) (c0_1 : Nat) (l0_1 : List ByteArray) (a0_2 : ByteArray) (a0_3 : ByteArray) (a1_0 : Int) (A1_1 : Option Addr) (c1_1 : Nat) (l1_1 : List ByteArray) (a1_2 : ByteArray) (a1_3 : ByteArray) (r : Bool) (w : World) (hr0_1 : Kd.C Kd.string w A0_1 l0_1.length l0_1) (hc0_1 : l0_1.length ≤ c0_1) (hr1_1 : Kd.C Kd.string w A1_1 l1_1.length l1_1) (hc1_1 : l1_1.length ≤ c1_1) (h : pleachref35_Same.f a0_0 l0_1 a0_2 a0_3 a1_0 l1_1 a1_2 a1_3 = some r) :
    Calls Tryd.prog 11 #[.agg #[.int .i64 a0_0, .slice A0_1 l0_1.length c0_1, .string a0_2, .string a0_3], .agg #[.int .i64 a1_0, .slice A1_1 l1_1.length c1_1, .string a1_2, .string a1_3]] w fun e w' => e = .returned (.bool r) ∧ Below w.heap.size w w' := by
  obtain ⟨k, hk⟩ := pleachref35_Same.ev _ _ _ _ _ _ _ _ _ h
  exact pleachref35_Same_p.calls (k := k) (w := w) (h := hk) (hr0_1 := hr0_1) (hc0_1 := hc0_1) (hr1_1 := hr1_1) (hc1_1 := hc1_1)

/-! ### varint_Put: function 59 -/
def varint_Put.f (a0 : Int) : Option ByteArray := if 0 ≤ a0 ∧ a0 < 18446744073709551616 then some (M.sb (M.vb a0.toNat)) else none

def varint_Put.inv (W w : World) (a0 : Nat) (m k : Nat) (pre : List Int) : Prop :=
  k ≤ 9 ∧ pre.length = k ∧ m < 2 * 128 ^ (9 - k) ∧ pre ++ M.vput m = M.vput a0 ∧
  W.ownsRow w.heap.size 113 1 (.slice (some ⟨w.heap.size, 0, none⟩) 10 10) 10 (nums .u8 (pre ++ List.replicate (10 - k) 0)) ∧ Below w.heap.size w W

theorem varint_Put.slice_ (b k : Nat) (hk : k ≤ 9) (W : World) :
    (Instr.sliceAt 113 (.pointer (some ⟨b, 0, none⟩)) none (some (.int .i64 ((k : Int) + 1))) none).run Tryd.prog W = .ok (.slice (some ⟨b, 0, none⟩) (k + 1) 10) W := by
  have ha : Tryd.prog.arrayLen 113 = 10 := by kernel_rfl
  rw [run_sliceAt_array_h W 113 _ (by kernel_rfl) .i64 _ (by omega) (by rw [ha]; omega), ha]
  have hs : (sizeOf (Tryd.prog.elem 113)).run Tryd.prog W = .ok 1 W := by kernel_rfl
  rw [hs]
  simp [Result.andThen, slicedAt, add_plain]

set_option maxHeartbeats 1000000 in
theorem varint_Put.nat (a0 : Nat) (w : World) (h1 : a0 < 18446744073709551616) :
    Calls Tryd.prog 59 #[.int .u64 a0] w fun e w' => e = .returned (.string (strOfNums (M.vput a0))) ∧ Below w.heap.size w w' := by
  go_enter Tryd.func59, Tryd.ntmps59
  go_wp2
  go_loopw [0, 4] (fun n i wr => ∃ (m k : Nat) (pre : List Int), n = .int .u64 m ∧ i = .int .i64 k ∧ varint_Put.inv wr w a0 m k pre) (fun n _ _ => (intOf n).toNat)
  case atStart =>
    refine ⟨a0, 0, [], rfl, rfl, Nat.zero_le _, rfl, by simpa using h1, rfl, ?_, below_alloc (Below.refl _ _) _⟩
    exact World.ownsRow_lit (base := w.heap.size) (e := 113) (size := 1) w #[Value.int IntKind.u8 0, Value.int IntKind.u8 0, Value.int IntKind.u8 0, Value.int IntKind.u8 0, Value.int IntKind.u8 0, Value.int IntKind.u8 0, Value.int IntKind.u8 0, Value.int IntKind.u8 0, Value.int IntKind.u8 0, Value.int IntKind.u8 0] 10 (Nat.le_refl _) (by decide) rfl
  case round =>
    obtain ⟨m, k, pre, rfl, rfl, hk, hl, hm, he, ho, hb⟩ := hrel
    obtain ⟨hc, hf⟩ := own_at ho (k : Int) (by omega) (by omega)
    have hm64 := M.put_m64 hm
    by_cases hlt : m < 128
    · have ht : decide ((m : Int) ≥ 128) = false := by simp; omega
      have hs := own_store ho (k : Int) ((m : Nat) : Int)
      rw [M.put_set pre k _ hk hl] at hs
      have ht2 := own_take (m := k + 1) hs.1 (by omega)
      have hconv := own_string (P := Tryd.prog) (src := 76) (dst := 9) (e := 5) (xs := (pre ++ [(m : Int)])) (by kernel_rfl) (by kernel_rfl) (by kernel_rfl) (by
        have e : List.take ((k + 1) * 1) (nums .u8 (pre ++ [(m : Int)] ++ List.replicate (10 - (k + 1)) 0)) = nums .u8 (pre ++ [(m : Int)]) := by
          rw [nums_append, Nat.mul_one, List.take_left' (by simp [nums, hl])]
        rw [e] at ht2; exact ht2)
      rw [← M.vput_low hlt, he] at hconv
      have hb' : Below w.heap.size w (wr.setCell ⟨w.heap.size, (k : Int).toNat, none⟩ (.int .u8 m)) := pw_below_grown hb _ hb.size hs.2 (fun q hq => by cases hq; exact Nat.le_refl _)
      have hsl := fun W => varint_Put.slice_ w.heap.size k hk W
      rw [Int.toNat_natCast] at hc hf hconv hb'
      clear ht2 hl he hs ho hm
      go_wp2
      go_ret
      exact ⟨rfl, hb'⟩
    · have ht : decide ((m : Int) ≥ 128) = true := by simp; omega
      obtain ⟨hk8, hm8⟩ := M.put_bound hk hm hlt
      have hs := own_store ho (k : Int) ((m % 128 + 128 : Nat) : Int)
      rw [M.put_set pre k _ hk hl] at hs
      have hb' : Below w.heap.size w (wr.setCell ⟨w.heap.size, (k : Int).toNat, none⟩ (.int .u8 ((m % 128 + 128 : Nat) : Int))) := pw_below_grown hb _ hb.size hs.2 (fun q hq => by cases hq; exact Nat.le_refl _)
      rw [Int.toNat_natCast] at hc hf hb' hs
      have HH : varint_Put.inv (wr.setCell ⟨w.heap.size, k, none⟩ (.int .u8 ((m % 128 + 128 : Nat) : Int))) w a0 (m / 128) (k + 1) (pre ++ [((m % 128 + 128 : Nat) : Int)]) :=
        ⟨hk8, by simp [hl], hm8, by rw [← he, M.vput_high hlt]; simp, hs.1, hb'⟩
      clear hs hb' hl he ho hm hm8
      have H := Aside0.mk HH
      clear HH
      have hor := M.or128 m
      go_wp2
      go_roundw
      case rel => exact ⟨m / 128, k + 1, _, by go_num, by go_num, H.out⟩
      case measure => simp [intOf]; omega

theorem varint_Put.calls (a0 : Int) (r : ByteArray) (w : World) (h : varint_Put.f a0 = some r) :
    Calls Tryd.prog 59 #[.int .u64 a0] w fun e w' => e = .returned (.string r) ∧ Below w.heap.size w w' := by
  unfold varint_Put.f at h
  split at h
  · rename_i hh
    obtain ⟨n, rfl⟩ := Int.eq_ofNat_of_zero_le hh.1
    obtain rfl := Option.some.inj h
    have := varint_Put.nat n w (by omega)
    rw [M.vput_vb] at this
    exact this
  · cases h

/-! ### scan_PutNum_p: function 40 -/
def scan_PutNum_p.f (a0 : Int) : Option (ByteArray) := (varint_Put.f (IntKind.u64.wrap (mx a0 0))).bind fun t277 => (some t277)
set_option maxHeartbeats 8000000 in
set_option maxRecDepth 100000 in
theorem scan_PutNum_p.calls (a0 : Int) (r : ByteArray) (w : World) (h : scan_PutNum_p.f a0 = some r) :
    Calls Tryd.prog 40 #[.int .i64 a0] w fun e w' => e = .returned (.string r) ∧ Below w.heap.size w w' := by
  have HB := Aside0.mk (Below.refl w.heap.size w)
  have H : ((varint_Put.f (IntKind.u64.wrap (mx a0 0))).bind fun t277 => (some t277)) = some r := h
  clear h
  obtain ⟨ji2, hji2⟩ : ∃ j_ : Int, (mx a0 0) = j_ := ⟨_, rfl⟩
  replace H : ((varint_Put.f (IntKind.u64.wrap (ji2))).bind fun t277 => (some t277)) = some r := by first | (rw [hji2] at H; exact H) | (simp only [hji2] at H ⊢; exact H)
  (try (have hji2l : 0 ≤ ji2 := by (rw [← hji2]; unfold mx; (repeat' split) <;> omega)))
  (try (have hji2m : 0 ≤ ji2 := by omega))
  have hji2_ : (if a0 < 0 then 0 else a0) = ji2 := hji2
  replace H := Option.bind_eq_some_iff.mp H
  obtain ⟨t277, A30, H⟩ := H
  replace H : (some t277) = some r := H
  have A3 := Aside0.mk A30
  clear A30
  obtain rfl := Option.some.inj H
  go_enter Tryd.func40, Tryd.ntmps40
  go_wp2_with (first | ((with_reducible refine gate_callee (f := 59) rfl ?_); refine goesL_ (some 6) rfl rfl Tryd.func59 (by kernel_rfl) rfl #[.int .u64 (IntKind.u64.wrap (ji2))] rfl (by (try simp only [List.map_toArray, List.map_cons, List.map_nil]); first | done | (simp only [hji2]; rfl) | rfl | (simp only [List.length_drop, List.length_take]; rfl)) ?_; (with_reducible refine (varint_Put.calls (IntKind.u64.wrap (ji2)) t277 _ A3.out).mono ?_); rintro e w4 ⟨rfl, hb⟩; refine ⟨_, rfl, ?_⟩; have n0_ := M.upS HB hb; clear HB; have HB := n0_; clear n0_; (try clear hb)))
  go_ret
  exact ⟨by first | rfl | (simp [errW_none, errW_some] <;> rfl) | (simp only [← hji2]; first | rfl | (simp [errW_none, errW_some] <;> rfl)) | (simp [*, errW_none, errW_some] <;> rfl), M.up HB⟩

-- this session's own plain form
def scan_PutNum.f (a0 : Int) : Option ByteArray := if a0 ≤ 9223372036854775807 then some (M.sb (M.vb a0.toNat)) else none
theorem scan_PutNum.ev (a0 : Int) (r : ByteArray) (h : scan_PutNum.f a0 = some r) : scan_PutNum_p.f a0 = some r := by
  unfold scan_PutNum.f at h
  split at h
  · rename_i hh
    have e : IntKind.u64.wrap (mx a0 0) = (a0.toNat : Int) := by
      by_cases h0 : 0 ≤ a0
      · rw [M.mx_ge h0, M.u64_id h0 (by omega)]; omega
      · rw [M.mx_le (by omega), M.u64_id (by decide) (by decide)]; omega
    unfold scan_PutNum_p.f varint_Put.f
    rw [e, if_pos ⟨by omega, by omega⟩, Option.bind_some, Int.toNat_natCast]
    exact h
  · cases h
theorem scan_PutNum.calls (a0 : Int) (r : ByteArray) (w : World) (h : scan_PutNum.f a0 = some r) :
    Calls Tryd.prog 40 #[.int .i64 a0] w fun e w' => e = .returned (.string r) ∧ Below w.heap.size w w' := by
  exact scan_PutNum_p.calls (w := w) (h := scan_PutNum.ev _ _ h)

/-! ### scan_PutText: function 41 -/
def scan_PutText.f (a0 : ByteArray) : Option ByteArray := if a0.size ≤ 9223372036854775797 then some (M.sb (M.vb a0.size) ++ a0) else none
theorem scan_PutText.go (a0 p : ByteArray) (w : World) (h0 : a0.size ≤ 9223372036854775797) (hp : varint_Put.f (a0.size : Int) = some p) (hs : p.size + a0.size ≤ 9223372036854775807) :
    Calls Tryd.prog 41 #[.string a0] w fun e w' => e = .returned (.string (p ++ a0)) ∧ Below w.heap.size w w' := by
  have HP := Aside0.mk hp
  clear hp
  have c3b0 := eq_true hs
  have c3b1 : decide (p.size + a0.size ≤ 9223372036854775807) = true := decide_eq_true hs
  have c3b2 : (9223372036854775807 < p.size + a0.size) = False := eq_false (Nat.not_lt.2 hs)
  go_enter Tryd.func41, Tryd.ntmps41
  go_wp2_with (go_at_call 59; refine (varint_Put.calls (a0.size : Int) p _ HP.out).mono ?_; rintro e w1 ⟨rfl, hb⟩)
  go_ret
  exact ⟨rfl, hb⟩
theorem scan_PutText.calls (a0 : ByteArray) (r : ByteArray) (w : World) (h : scan_PutText.f a0 = some r) :
    Calls Tryd.prog 41 #[.string a0] w fun e w' => e = .returned (.string r) ∧ Below w.heap.size w w' := by
  unfold scan_PutText.f at h
  split at h
  · rename_i hh
    obtain rfl := Option.some.inj h
    have hl := M.vb_le a0.size (by omega)
    refine scan_PutText.go a0 _ w hh ?_ (by rw [M.size_sb]; omega)
    unfold varint_Put.f
    rw [if_pos ⟨by omega, by omega⟩, Int.toNat_natCast]
  · cases h

end Go.Proofs.YtikdbklmhjlfoaaDoor.ECommitTakes
