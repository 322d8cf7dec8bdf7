-- Written by this session's own program (wip/tools/ext.py) for this claim; Lean checks it.
import Derived.Test.YtikdbklmhjlfoaaDoorECommitPutsx0
import Derived.Test.YtikdbklmhjlfoaaDoorECommitPutsx5
import Derived.Test.YtikdbklmhjlfoaaDoorECommitPutsx7
namespace Go.Proofs.YtikdbklmhjlfoaaDoor.ECommitPuts
open Go.RowKit Go.Proofs.YtikdbklmhjlfoaaDoorW.PrintWords Go.Proofs.YtikdbklmhjlfoaaDoorW.PrintLast Go.Proofs.YtikdbklmhjlfoaaDoorW.PrintMore
attribute [local go_sem] M.run_leq M.run_gtr M.run_geq max2_int min2_int max_two min_two max_three min_three max_four min_four   -- for this text's walks alone
set_option linter.unusedVariables false
set_option linter.unusedSimpArgs false

/-! ### pleachref35_Is_p: function 14 -/
mutual
def pleachref35_Is_p.j0 : Nat → Bool → Int → List ByteArray → ByteArray → ByteArray → Option (Bool)
  | 0, _, _, _, _, _ => none
  | k + 1, x29, zaa, zab, zac, zad => if x29 = true then (some false) else (pleachref35_Is_p.l0 k (zab.length : Int) 0 zaa zab zac zad)
def pleachref35_Is_p.l0 : Nat → Int → Int → Int → List ByteArray → ByteArray → ByteArray → Option (Bool)
  | 0, _, _, _, _, _, _ => none
  | k + 1, x32, x33, zaa, zab, zac, zad => if x33 < x32 then (if 0 ≤ x33 then (if x33 < (zab.length : Int) then (if ((rdOf ByteArray.empty zab x33).size : Int) = 32 then (pleachref35_Is_p.l0 k x32 (wrap64 (x33 + 1)) zaa zab zac zad) else (some false)) else (none)) else (none)) else (if (zab.length : Int) < 2 then (some true) else (if 0 < (zab.length : Int) then (if 1 < (zab.length : Int) then (some ((rdOf ByteArray.empty zab 0).toList != (rdOf ByteArray.empty zab 1).toList)) else (none)) else (none)))
end
def pleachref35_Is_p.f (k : Nat) (a0_0 : Int) (l0_1 : List ByteArray) (a0_2 : ByteArray) (a0_3 : ByteArray) : Option (Bool) := if a0_0 < 1 then (pleachref35_Is_p.j0 k true a0_0 l0_1 a0_2 a0_3) else (if a0_0 > 4294967295 then (pleachref35_Is_p.j0 k true a0_0 l0_1 a0_2 a0_3) else (if (l0_1.length : Int) > 2 then (pleachref35_Is_p.j0 k true a0_0 l0_1 a0_2 a0_3) else (if (a0_2.size : Int) = 32 then (pleachref35_Is_p.j0 k (decide ((a0_3.size : Int) > 40)) a0_0 l0_1 a0_2 a0_3) else (pleachref35_Is_p.j0 k true a0_0 l0_1 a0_2 a0_3))))
theorem pleachref35_Is_p.mono_l : ∀ k, (∀ y0 y1 y2 y3 y4, LeO (pleachref35_Is_p.j0 k y0 y1 y2 y3 y4) (pleachref35_Is_p.j0 (k + 1) y0 y1 y2 y3 y4)) ∧ (∀ y0 y1 y2 y3 y4 y5, LeO (pleachref35_Is_p.l0 k y0 y1 y2 y3 y4 y5) (pleachref35_Is_p.l0 (k + 1) y0 y1 y2 y3 y4 y5))
  | 0 => ⟨fun _ _ _ _ _ r h => by simp [pleachref35_Is_p.j0] at h, fun _ _ _ _ _ _ r h => by simp [pleachref35_Is_p.l0] at h⟩
  | k + 1 => by
    obtain ⟨ih0, ih1⟩ := pleachref35_Is_p.mono_l k
    refine ⟨?_, ?_⟩
    · intro y0 y1 y2 y3 y4
      unfold pleachref35_Is_p.j0
      repeat' first
      | (with_reducible exact ih0 _ _ _ _ _)
      | (with_reducible exact ih1 _ _ _ _ _ _)
      | (with_reducible exact LeO.refl _)
      | (with_reducible exact LeO.none _)
      | (with_reducible refine LeO.ite ?_ ?_)
      | (with_reducible refine LeO.bind ?_ (fun _ => ?_))
      | exact ih0 _ _ _ _ _
      | exact ih1 _ _ _ _ _ _
      | exact LeO.none _
      | refine LeO.ite ?_ ?_
      | refine LeO.bind ?_ (fun _ => ?_)
    · intro y0 y1 y2 y3 y4 y5
      unfold pleachref35_Is_p.l0
      repeat' first
      | (with_reducible exact ih0 _ _ _ _ _)
      | (with_reducible exact ih1 _ _ _ _ _ _)
      | (with_reducible exact LeO.refl _)
      | (with_reducible exact LeO.none _)
      | (with_reducible refine LeO.ite ?_ ?_)
      | (with_reducible refine LeO.bind ?_ (fun _ => ?_))
      | exact ih0 _ _ _ _ _
      | exact ih1 _ _ _ _ _ _
      | exact LeO.none _
      | refine LeO.ite ?_ ?_
      | refine LeO.bind ?_ (fun _ => ?_)
theorem pleachref35_Is_p.mono : ∀ a0 a1 a2 a3 k, LeO (pleachref35_Is_p.f k a0 a1 a2 a3) (pleachref35_Is_p.f (k + 1) a0 a1 a2 a3) := by
  intro a0 a1 a2 a3 k
  obtain ⟨ih0, ih1⟩ := pleachref35_Is_p.mono_l k
  unfold pleachref35_Is_p.f
  repeat' first
      | (with_reducible exact ih0 _ _ _ _ _)
      | (with_reducible exact ih1 _ _ _ _ _ _)
      | (with_reducible exact LeO.refl _)
      | (with_reducible exact LeO.none _)
      | (with_reducible refine LeO.ite ?_ ?_)
      | (with_reducible refine LeO.bind ?_ (fun _ => ?_))
      | exact ih0 _ _ _ _ _
      | exact ih1 _ _ _ _ _ _
      | exact LeO.none _
      | refine LeO.ite ?_ ?_
      | refine LeO.bind ?_ (fun _ => ?_)
set_option maxHeartbeats 8000000 in
set_option maxRecDepth 100000 in
theorem pleachref35_Is_p.calls (k : Nat) (a0_0 : Int) (A0_1 : Option Addr) (c0_1 : Nat) (l0_1 : List ByteArray) (a0_2 : ByteArray) (a0_3 : ByteArray) (r : Bool) (w : World) (hr0_1 : Kd.C Kd.string w A0_1 l0_1.length l0_1) (hc0_1 : l0_1.length ≤ c0_1) (h : pleachref35_Is_p.f k a0_0 l0_1 a0_2 a0_3 = some r) :
    Calls Tryd.prog 14 #[.agg #[.int .i64 a0_0, .slice A0_1 l0_1.length c0_1, .string a0_2, .string a0_3]] w fun e w' => e = .returned (.bool r) ∧ Below w.heap.size w w' := by
  have hu24 := Tryd.underlying24
  have HR0_1 := Aside0.mk hr0_1
  have HC0_1 := Aside0.mk hc0_1
  clear hr0_1 hc0_1
  have HB := Aside0.mk (Below.refl w.heap.size w)
  have H : (if a0_0 < 1 then (pleachref35_Is_p.j0 k true a0_0 l0_1 a0_2 a0_3) else (if a0_0 > 4294967295 then (pleachref35_Is_p.j0 k true a0_0 l0_1 a0_2 a0_3) else (if (l0_1.length : Int) > 2 then (pleachref35_Is_p.j0 k true a0_0 l0_1 a0_2 a0_3) else (if (a0_2.size : Int) = 32 then (pleachref35_Is_p.j0 k (decide ((a0_3.size : Int) > 40)) a0_0 l0_1 a0_2 a0_3) else (pleachref35_Is_p.j0 k true a0_0 l0_1 a0_2 a0_3))))) = some r := h
  clear h
  have HC2 := Aside0.mk H
  clear H
  go_enter Tryd.func14, Tryd.ntmps14
  go_upto_region 1 with (first | ((with_reducible refine gate_dst (N := 1) rfl ?_); (try (refine gate_guard (by rfl) ?_; dsimp only)); refine box_event ?hg (N := 1) ?hd (cs := #[.int .i64 a0_0, .slice A0_1 l0_1.length c0_1, .string a0_2, .string a0_3]) (t := 24) ?hr ?_; (case hd => rfl); (case hg => rfl); (case hr => first | (go_simp; done) | (go_simp; rfl)); intro zae hg w3 hbox hb; have n0_ := M.upS HB hb; have n1_ := Aside0.mk (hbox); have n2_ := M.upG HB hg; have n3_ := M.upG HB hg; clear HB; have HB := n0_; have zaf := n1_; have zag := n2_; have zah := n3_; clear n0_ n1_ n2_ n3_; clear hb hbox hg))
  repeat (go_quiet (first | ((with_reducible refine gate_dst (N := 1) rfl ?_); (try (refine gate_guard (by rfl) ?_; dsimp only)); refine box_event ?hg (N := 1) ?hd (cs := #[.int .i64 a0_0, .slice A0_1 l0_1.length c0_1, .string a0_2, .string a0_3]) (t := 24) ?hr ?_; (case hd => rfl); (case hg => rfl); (case hr => first | (go_simp; done) | (go_simp; rfl)); intro zae hg w3 hbox hb; have n0_ := M.upS HB hb; have n1_ := Aside0.mk (hbox); have n2_ := M.upG HB hg; have n3_ := M.upG HB hg; clear HB; have HB := n0_; have zaf := n1_; have zag := n2_; have zah := n3_; clear n0_ n1_ n2_ n3_; clear hb hbox hg)); go_upto_region 1 with (first | ((with_reducible refine gate_dst (N := 1) rfl ?_); (try (refine gate_guard (by rfl) ?_; dsimp only)); refine box_event ?hg (N := 1) ?hd (cs := #[.int .i64 a0_0, .slice A0_1 l0_1.length c0_1, .string a0_2, .string a0_3]) (t := 24) ?hr ?_; (case hd => rfl); (case hg => rfl); (case hr => first | (go_simp; done) | (go_simp; rfl)); intro zae hg w3 hbox hb; have n0_ := M.upS HB hb; have n1_ := Aside0.mk (hbox); have n2_ := M.upG HB hg; have n3_ := M.upG HB hg; clear HB; have HB := n0_; have zaf := n1_; have zag := n2_; have zah := n3_; clear n0_ n1_ n2_ n3_; clear hb hbox hg)))
  (try simp only [Act.put, List.setIfInBounds_toArray, List.set_cons_zero, List.set_cons_succ])
  go_cut [29] (fun v29 wc => ∃ (kq : Nat) (x29_1 : Bool), v29 = .bool x29_1 ∧ Aside0 (pleachref35_Is_p.j0 kq x29_1 a0_0 l0_1 a0_2 a0_3 = some r) ∧ Aside0 (kq ≤ k) ∧ Aside0 (wc.heap[zae]? = some (.cells #[.int .i64 a0_0, (.slice A0_1 l0_1.length c0_1), .string a0_2, .string a0_3] 24 (0, 0))) ∧ Aside0 (Below w.heap.size w wc))
  case first =>
    have H := HC2.out
    clear HC2
    by_cases c4 : a0_0 < 1
    · rw [if_pos c4] at H
      have c4b0 : decide (a0_0 < 1) = true := decide_eq_true c4
      clear c4
      (first | rw [c4b0] | (simp only [i64_w, i32_w]; rw [c4b0]) | skip)
      have H' := Aside0.mk H
      clear H
      have zai : w3.cell? ⟨zae, 0, none⟩ = some (.int .i64 a0_0) := (blk_cell zaf.out 0).trans rfl
      have zaj : w3.cell? ⟨zae, 1, none⟩ = some (.slice A0_1 l0_1.length c0_1) := (blk_cell zaf.out 1).trans rfl
      have zak : w3.cell? ⟨zae, 2, none⟩ = some (.string a0_2) := (blk_cell zaf.out 2).trans rfl
      have zal : w3.cell? ⟨zae, 3, none⟩ = some (.string a0_3) := (blk_cell zaf.out 3).trans rfl
      have zam := blk_frozen zaf.out 0
      have zan := blk_frozen zaf.out 1
      have zao := blk_frozen zaf.out 2
      have zap := blk_frozen zaf.out 3
      go_wp2
      repeat (go_quiet (fail); try go_wp2)
      go_meet
      case rel => exact ⟨_, (true), (by first | rfl | (simp; done) | (simp [*]; done) | (simp [M.isEmpty_bne]; done)), H', ⟨by first | omega | exact Nat.le_refl _⟩, ⟨by (with_reducible repeat (first | refine blk_drewN ?_ _ | refine blk_drew ?_ | refine blk_alloc ?_ _)); exact zaf.out⟩, ⟨M.up HB⟩⟩
    · rw [if_neg c4] at H
      have c4b0 : decide (a0_0 < 1) = false := decide_eq_false c4
      clear c4
      (first | rw [c4b0] | (simp only [i64_w, i32_w]; rw [c4b0]) | skip)
      by_cases c6 : a0_0 > 4294967295
      · rw [if_pos c6] at H
        have c6b0 : decide (4294967295 < a0_0) = true := decide_eq_true c6
        clear c6
        have H' := Aside0.mk H
        clear H
        have zaq : w3.cell? ⟨zae, 0, none⟩ = some (.int .i64 a0_0) := (blk_cell zaf.out 0).trans rfl
        have zar : w3.cell? ⟨zae, 1, none⟩ = some (.slice A0_1 l0_1.length c0_1) := (blk_cell zaf.out 1).trans rfl
        have zas : w3.cell? ⟨zae, 2, none⟩ = some (.string a0_2) := (blk_cell zaf.out 2).trans rfl
        have zat : w3.cell? ⟨zae, 3, none⟩ = some (.string a0_3) := (blk_cell zaf.out 3).trans rfl
        have zau := blk_frozen zaf.out 0
        have zav := blk_frozen zaf.out 1
        have zaw := blk_frozen zaf.out 2
        have zax := blk_frozen zaf.out 3
        go_wp2
        repeat (go_quiet (fail); try go_wp2)
        go_meet
        case rel => exact ⟨_, (true), (by first | rfl | (simp; done) | (simp [*]; done) | (simp [M.isEmpty_bne]; done)), H', ⟨by first | omega | exact Nat.le_refl _⟩, ⟨by (with_reducible repeat (first | refine blk_drewN ?_ _ | refine blk_drew ?_ | refine blk_alloc ?_ _)); exact zaf.out⟩, ⟨M.up HB⟩⟩
      · rw [if_neg c6] at H
        have c6b0 : decide (4294967295 < a0_0) = false := decide_eq_false c6
        clear c6
        by_cases c8 : (l0_1.length : Int) > 2
        · rw [if_pos c8] at H
          have c8b0 : decide (2 < (l0_1.length : Int)) = true := decide_eq_true c8
          have c8b1 : decide (2 < l0_1.length) = true := decide_eq_true (by omega)
          clear c8
          have H' := Aside0.mk H
          clear H
          have zay : w3.cell? ⟨zae, 0, none⟩ = some (.int .i64 a0_0) := (blk_cell zaf.out 0).trans rfl
          have zaz : w3.cell? ⟨zae, 1, none⟩ = some (.slice A0_1 l0_1.length c0_1) := (blk_cell zaf.out 1).trans rfl
          have zaA : w3.cell? ⟨zae, 2, none⟩ = some (.string a0_2) := (blk_cell zaf.out 2).trans rfl
          have zaB : w3.cell? ⟨zae, 3, none⟩ = some (.string a0_3) := (blk_cell zaf.out 3).trans rfl
          have zaC := blk_frozen zaf.out 0
          have zaD := blk_frozen zaf.out 1
          have zaE := blk_frozen zaf.out 2
          have zaF := blk_frozen zaf.out 3
          go_wp2
          repeat (go_quiet (fail); try go_wp2)
          go_meet
          case rel => exact ⟨_, (true), (by first | rfl | (simp; done) | (simp [*]; done) | (simp [M.isEmpty_bne]; done)), H', ⟨by first | omega | exact Nat.le_refl _⟩, ⟨by (with_reducible repeat (first | refine blk_drewN ?_ _ | refine blk_drew ?_ | refine blk_alloc ?_ _)); exact zaf.out⟩, ⟨M.up HB⟩⟩
        · rw [if_neg c8] at H
          have c8b0 : decide (2 < (l0_1.length : Int)) = false := decide_eq_false c8
          have c8b1 : decide (2 < l0_1.length) = false := decide_eq_false (by omega)
          clear c8
          by_cases c10 : (a0_2.size : Int) = 32
          · rw [if_pos c10] at H
            have c10b0 : ((a0_2.size : Int) == 32) = true := beq_iff_eq.mpr c10
            have c10b1 : ((a0_2.size : Int) != 32) = false := bne_eq_false_iff_eq.mpr c10
            clear c10
            have H' := Aside0.mk H
            clear H
            have zaG : w3.cell? ⟨zae, 0, none⟩ = some (.int .i64 a0_0) := (blk_cell zaf.out 0).trans rfl
            have zaH : w3.cell? ⟨zae, 1, none⟩ = some (.slice A0_1 l0_1.length c0_1) := (blk_cell zaf.out 1).trans rfl
            have zaI : w3.cell? ⟨zae, 2, none⟩ = some (.string a0_2) := (blk_cell zaf.out 2).trans rfl
            have zaJ : w3.cell? ⟨zae, 3, none⟩ = some (.string a0_3) := (blk_cell zaf.out 3).trans rfl
            have zaK := blk_frozen zaf.out 0
            have zaL := blk_frozen zaf.out 1
            have zaM := blk_frozen zaf.out 2
            have zaN := blk_frozen zaf.out 3
            go_wp2
            repeat (go_quiet (fail); try go_wp2)
            go_meet
            case rel => exact ⟨_, (decide ((a0_3.size : Int) > 40)), (by first | rfl | (simp; done) | (simp [*]; done) | (simp [M.isEmpty_bne]; done)), H', ⟨by first | omega | exact Nat.le_refl _⟩, ⟨by (with_reducible repeat (first | refine blk_drewN ?_ _ | refine blk_drew ?_ | refine blk_alloc ?_ _)); exact zaf.out⟩, ⟨M.up HB⟩⟩
          · rw [if_neg c10] at H
            have c10b0 : ((a0_2.size : Int) == 32) = false := beq_eq_false_iff_ne.mpr c10
            have c10b1 : ((a0_2.size : Int) != 32) = true := bne_iff_ne.mpr c10
            have H' := Aside0.mk H
            clear H
            have zaO : w3.cell? ⟨zae, 0, none⟩ = some (.int .i64 a0_0) := (blk_cell zaf.out 0).trans rfl
            have zaP : w3.cell? ⟨zae, 1, none⟩ = some (.slice A0_1 l0_1.length c0_1) := (blk_cell zaf.out 1).trans rfl
            have zaQ : w3.cell? ⟨zae, 2, none⟩ = some (.string a0_2) := (blk_cell zaf.out 2).trans rfl
            have zaR : w3.cell? ⟨zae, 3, none⟩ = some (.string a0_3) := (blk_cell zaf.out 3).trans rfl
            have zaS := blk_frozen zaf.out 0
            have zaT := blk_frozen zaf.out 1
            have zaU := blk_frozen zaf.out 2
            have zaV := blk_frozen zaf.out 3
            go_wp2
            repeat (go_quiet (fail); try go_wp2)
            go_meet
            case rel => exact ⟨_, (true), (by first | rfl | (simp; done) | (simp [*]; done) | (simp [M.isEmpty_bne]; done)), H', ⟨by first | omega | exact Nat.le_refl _⟩, ⟨by (with_reducible repeat (first | refine blk_drewN ?_ _ | refine blk_drew ?_ | refine blk_alloc ?_ _)); exact zaf.out⟩, ⟨M.up HB⟩⟩
  case rest =>
    clear HC2
    try clear c1
    try clear p2
    try clear c4
    try clear c4b0
    try clear c6
    try clear c6b0
    try clear c8
    try clear c8b0
    try clear c8b1
    try clear c10
    try clear c10b0
    try clear c10b1
    try clear zaG
    try clear zaH
    try clear zaI
    try clear zaJ
    try clear zaO
    try clear zaP
    try clear zaQ
    try clear zaR
    try clear zai
    try clear zaj
    try clear zak
    try clear zal
    try clear zaq
    try clear zar
    try clear zas
    try clear zat
    try clear zay
    try clear zaz
    try clear zaA
    try clear zaB
    try clear zaK
    try clear zaL
    try clear zaM
    try clear zaN
    try clear zaS
    try clear zaT
    try clear zaU
    try clear zaV
    try clear zam
    try clear zan
    try clear zao
    try clear zap
    try clear zau
    try clear zav
    try clear zaw
    try clear zax
    try clear zaC
    try clear zaD
    try clear zaE
    try clear zaF
    obtain ⟨kq, x29_1, rfl, HA, HJ1, zaf, HB⟩ := hcut
    cases kq with
    | zero => exact absurd HA.out (by simp [pleachref35_Is_p.j0])
    | succ kj1 =>
      have H := HA.out
      clear HA
      simp only [pleachref35_Is_p.j0] at H
      by_cases c13 : x29_1 = true
      · subst c13
        have H1 : (some false) = some r := by rw [if_pos rfl] at H; exact H
        clear H
        have H := H1
        clear H1
        obtain rfl := Option.some.inj H
        go_wp2
        repeat (go_quiet (fail); try go_wp2)
        go_ret
        exact M.fin (M.up HB)
      · replace c13 := Bool.eq_false_iff.mpr c13
        subst c13
        have H1 : (pleachref35_Is_p.l0 kj1 (l0_1.length : Int) 0 a0_0 l0_1 a0_2 a0_3) = some r := by rw [if_neg (show ¬ (false = true) by decide)] at H; exact H
        clear H
        have H := H1
        clear H1
        have H' := Aside0.mk H
        clear H
        have zaW : wc.cell? ⟨zae, 0, none⟩ = some (.int .i64 a0_0) := (blk_cell zaf.out 0).trans rfl
        have zaX : wc.cell? ⟨zae, 1, none⟩ = some (.slice A0_1 l0_1.length c0_1) := (blk_cell zaf.out 1).trans rfl
        have zaY : wc.cell? ⟨zae, 2, none⟩ = some (.string a0_2) := (blk_cell zaf.out 2).trans rfl
        have zaZ : wc.cell? ⟨zae, 3, none⟩ = some (.string a0_3) := (blk_cell zaf.out 3).trans rfl
        have za0 := blk_frozen zaf.out 0
        have za1 := blk_frozen zaf.out 1
        have za2 := blk_frozen zaf.out 2
        have za3 := blk_frozen zaf.out 3
        go_wp2
        repeat (go_quiet (fail); try go_wp2)
        go_loopg [33] kj1 (fun kq v33 w' => ∃ (x33_2 : Int), v33 = .int .i64 x33_2 ∧ Aside0 (pleachref35_Is_p.l0 kq (l0_1.length : Int) x33_2 a0_0 l0_1 a0_2 a0_3 = some r) ∧ Aside0 (kq ≤ kj1) ∧ Aside0 (w'.heap[zae]? = some (.cells #[.int .i64 a0_0, (.slice A0_1 l0_1.length c0_1), .string a0_2, .string a0_3] 24 (0, 0))) ∧ Aside0 (Below w.heap.size w w'))
        case atStart => exact ⟨(0), (by first | rfl | (simp; done) | (simp [*]; done) | (simp [M.isEmpty_bne]; done)), H', ⟨Nat.le_refl _⟩, ⟨by (with_reducible repeat (first | refine blk_drewN ?_ _ | refine blk_drew ?_ | refine blk_alloc ?_ _)); exact zaf.out⟩, ⟨M.up HB⟩⟩
        case round =>
          clear H'
          try clear c1
          try clear p2
          try clear c4
          try clear c4b0
          try clear c6
          try clear c6b0
          try clear c8
          try clear c8b0
          try clear c8b1
          try clear c10
          try clear c10b0
          try clear c10b1
          try clear c13
          try clear c14
          try clear zaG
          try clear zaH
          try clear zaI
          try clear zaJ
          try clear zaO
          try clear zaP
          try clear zaQ
          try clear zaR
          try clear zaW
          try clear zaX
          try clear zaY
          try clear zaZ
          try clear zai
          try clear zaj
          try clear zak
          try clear zal
          try clear zaq
          try clear zar
          try clear zas
          try clear zat
          try clear zay
          try clear zaz
          try clear zaA
          try clear zaB
          try clear zaK
          try clear zaL
          try clear zaM
          try clear zaN
          try clear zaS
          try clear zaT
          try clear zaU
          try clear zaV
          try clear za0
          try clear za1
          try clear za2
          try clear za3
          try clear zam
          try clear zan
          try clear zao
          try clear zap
          try clear zau
          try clear zav
          try clear zaw
          try clear zax
          try clear zaC
          try clear zaD
          try clear zaE
          try clear zaF
          try clear p2
          obtain ⟨x33_2, rfl, HA, HK2, zaf, HB⟩ := hrel
          cases gk with
          | zero => exact absurd HA.out (by simp [pleachref35_Is_p.l0])
          | succ k2 =>
            have H := HA.out
            clear HA
            simp only [pleachref35_Is_p.l0] at H
            by_cases c15 : x33_2 < (l0_1.length : Int)
            · rw [if_pos c15] at H
              have c15b0 : decide (x33_2 < (l0_1.length : Int)) = true := decide_eq_true c15
              clear c15
              by_cases c16 : 0 ≤ x33_2
              · rw [if_pos c16] at H
                have c16b0 : decide (0 ≤ x33_2) = true := decide_eq_true c16
                clear c16
                by_cases c17 : x33_2 < (l0_1.length : Int)
                · rw [if_pos c17] at H
                  have c17b0 : decide (x33_2 < (l0_1.length : Int)) = true := decide_eq_true c17
                  clear c17
                  by_cases c18 : ((rdOf ByteArray.empty l0_1 x33_2).size : Int) = 32
                  · rw [if_pos c18] at H
                    have c18b0 : (((rdOf ByteArray.empty l0_1 x33_2).size : Int) == 32) = true := beq_iff_eq.mpr c18
                    have c18b1 : (((rdOf ByteArray.empty l0_1 x33_2).size : Int) != 32) = false := bne_eq_false_iff_eq.mpr c18
                    clear c18
                    have H' := Aside0.mk H
                    clear H
                    have za4 : wr.cell? ⟨zae, 0, none⟩ = some (.int .i64 a0_0) := (blk_cell zaf.out 0).trans rfl
                    have za5 : wr.cell? ⟨zae, 1, none⟩ = some (.slice A0_1 l0_1.length c0_1) := (blk_cell zaf.out 1).trans rfl
                    have za6 : wr.cell? ⟨zae, 2, none⟩ = some (.string a0_2) := (blk_cell zaf.out 2).trans rfl
                    have za7 : wr.cell? ⟨zae, 3, none⟩ = some (.string a0_3) := (blk_cell zaf.out 3).trans rfl
                    have za8 := blk_frozen zaf.out 0
                    have za9 := blk_frozen zaf.out 1
                    have zba := blk_frozen zaf.out 2
                    have zbb := blk_frozen zaf.out 3
                    have p201 : 0 ≤ (x33_2 : Int) := of_decide_eq_true (by first | (with_reducible assumption) | assumption)
                    have q201 : x33_2 < (l0_1.length : Int) := of_decide_eq_true (by first | (with_reducible assumption) | assumption)
                    obtain ⟨ad201, e201, hx201_0⟩ := Kd.at_string HR0_1.out x33_2 p201 q201
                    cases e201
                    replace hx201_0 := (HB.out.cell (World.block_lt_of_cell? w _ hx201_0)).trans hx201_0
                    replace p201 := eq_true p201
                    replace q201 := eq_true q201
                    go_wp2
                    repeat (go_quiet (fail); try go_wp2)
                    go_roundg k2
                    case measure => have := HJ1.out; have := HK2.out; omega
                    case rel => exact ⟨(wrap64 (x33_2 + 1)), (by first | rfl | (simp; done) | (simp [*]; done) | (simp [M.isEmpty_bne]; done)), H', ⟨by have := HJ1.out; have := HK2.out; omega⟩, ⟨by (with_reducible repeat (first | refine blk_drewN ?_ _ | refine blk_drew ?_ | refine blk_alloc ?_ _)); exact zaf.out⟩, ⟨M.up HB⟩⟩
                  · rw [if_neg c18] at H
                    have c18b0 : (((rdOf ByteArray.empty l0_1 x33_2).size : Int) == 32) = false := beq_eq_false_iff_ne.mpr c18
                    have c18b1 : (((rdOf ByteArray.empty l0_1 x33_2).size : Int) != 32) = true := bne_iff_ne.mpr c18
                    obtain rfl := Option.some.inj H
                    have zbc : wr.cell? ⟨zae, 0, none⟩ = some (.int .i64 a0_0) := (blk_cell zaf.out 0).trans rfl
                    have zbd : wr.cell? ⟨zae, 1, none⟩ = some (.slice A0_1 l0_1.length c0_1) := (blk_cell zaf.out 1).trans rfl
                    have zbe : wr.cell? ⟨zae, 2, none⟩ = some (.string a0_2) := (blk_cell zaf.out 2).trans rfl
                    have zbf : wr.cell? ⟨zae, 3, none⟩ = some (.string a0_3) := (blk_cell zaf.out 3).trans rfl
                    have zbg := blk_frozen zaf.out 0
                    have zbh := blk_frozen zaf.out 1
                    have zbi := blk_frozen zaf.out 2
                    have zbj := blk_frozen zaf.out 3
                    have p201 : 0 ≤ (x33_2 : Int) := of_decide_eq_true (by first | (with_reducible assumption) | assumption)
                    have q201 : x33_2 < (l0_1.length : Int) := of_decide_eq_true (by first | (with_reducible assumption) | assumption)
                    obtain ⟨ad201, e201, hx201_0⟩ := Kd.at_string HR0_1.out x33_2 p201 q201
                    cases e201
                    replace hx201_0 := (HB.out.cell (World.block_lt_of_cell? w _ hx201_0)).trans hx201_0
                    replace p201 := eq_true p201
                    replace q201 := eq_true q201
                    go_wp2
                    repeat (go_quiet (fail); try go_wp2)
                    go_ret
                    exact M.fin (M.up HB)
                · rw [if_neg c17] at H
                  exact absurd H (by simp)
              · rw [if_neg c16] at H
                exact absurd H (by simp)
            · rw [if_neg c15] at H
              have c15b0 : decide (x33_2 < (l0_1.length : Int)) = false := decide_eq_false c15
              clear c15
              by_cases c21 : (l0_1.length : Int) < 2
              · rw [if_pos c21] at H
                have c21b0 : decide ((l0_1.length : Int) < 2) = true := decide_eq_true c21
                have c21b1 : decide (l0_1.length < 2) = true := decide_eq_true (by omega)
                clear c21
                obtain rfl := Option.some.inj H
                have zbk : wr.cell? ⟨zae, 0, none⟩ = some (.int .i64 a0_0) := (blk_cell zaf.out 0).trans rfl
                have zbl : wr.cell? ⟨zae, 1, none⟩ = some (.slice A0_1 l0_1.length c0_1) := (blk_cell zaf.out 1).trans rfl
                have zbm : wr.cell? ⟨zae, 2, none⟩ = some (.string a0_2) := (blk_cell zaf.out 2).trans rfl
                have zbn : wr.cell? ⟨zae, 3, none⟩ = some (.string a0_3) := (blk_cell zaf.out 3).trans rfl
                have zbo := blk_frozen zaf.out 0
                have zbp := blk_frozen zaf.out 1
                have zbq := blk_frozen zaf.out 2
                have zbr := blk_frozen zaf.out 3
                go_wp2
                repeat (go_quiet (fail); try go_wp2)
                go_ret
                exact M.fin (M.up HB)
              · rw [if_neg c21] at H
                have c21b0 : decide ((l0_1.length : Int) < 2) = false := decide_eq_false c21
                have c21b1 : decide (l0_1.length < 2) = false := decide_eq_false (by omega)
                clear c21
                by_cases c23 : 0 < (l0_1.length : Int)
                · rw [if_pos c23] at H
                  have c23b0 : decide (0 < (l0_1.length : Int)) = true := decide_eq_true c23
                  have c23b1 : decide (0 < l0_1.length) = true := decide_eq_true (by omega)
                  clear c23
                  by_cases c24 : 1 < (l0_1.length : Int)
                  · rw [if_pos c24] at H
                    have c24b0 : decide (1 < (l0_1.length : Int)) = true := decide_eq_true c24
                    have c24b1 : decide (1 < l0_1.length) = true := decide_eq_true (by omega)
                    clear c24
                    obtain rfl := Option.some.inj H
                    have zbs : wr.cell? ⟨zae, 0, none⟩ = some (.int .i64 a0_0) := (blk_cell zaf.out 0).trans rfl
                    have zbt : wr.cell? ⟨zae, 1, none⟩ = some (.slice A0_1 l0_1.length c0_1) := (blk_cell zaf.out 1).trans rfl
                    have zbu : wr.cell? ⟨zae, 2, none⟩ = some (.string a0_2) := (blk_cell zaf.out 2).trans rfl
                    have zbv : wr.cell? ⟨zae, 3, none⟩ = some (.string a0_3) := (blk_cell zaf.out 3).trans rfl
                    have zbw := blk_frozen zaf.out 0
                    have zbx := blk_frozen zaf.out 1
                    have zby := blk_frozen zaf.out 2
                    have zbz := blk_frozen zaf.out 3
                    have p199 : 0 ≤ (0 : Int) := (by omega)
                    have q199 : 0 < (l0_1.length : Int) := of_decide_eq_true (by first | (with_reducible assumption) | assumption)
                    obtain ⟨ad199, e199, hx199_0⟩ := Kd.at_string HR0_1.out 0 p199 q199
                    cases e199
                    have qi199 : (0 < l0_1.length) = True := eq_true (by omega)
                    (try rw [show ((0 : Int)).toNat = 0 from rfl] at hx199_0)
                    (try rw [Addr.add_zero'] at hx199_0)
                    replace hx199_0 := (HB.out.cell (World.block_lt_of_cell? w _ hx199_0)).trans hx199_0
                    replace p199 := eq_true p199
                    replace q199 := eq_true q199
                    have p200 : 0 ≤ (1 : Int) := (by omega)
                    have q200 : 1 < (l0_1.length : Int) := of_decide_eq_true (by first | (with_reducible assumption) | assumption)
                    obtain ⟨ad200, e200, hx200_0⟩ := Kd.at_string HR0_1.out 1 p200 q200
                    obtain rfl : ad199 = ad200 := (by injection e200)
                    (try simp only [show (1 : Int).toNat = 1 from rfl, Nat.reduceMul, Nat.reduceEqDiff, Go.Addr.add, ↓reduceIte] at hx200_0)
                    have qi200 : (1 < l0_1.length) = True := eq_true (by omega)
                    (try rw [show ((1 : Int)).toNat = 1 from rfl] at hx200_0)
                    replace hx200_0 := (HB.out.cell (World.block_lt_of_cell? w _ hx200_0)).trans hx200_0
                    replace p200 := eq_true p200
                    replace q200 := eq_true q200
                    go_wp2
                    repeat (go_quiet (fail); try go_wp2)
                    go_ret
                    exact M.fin (M.up HB)
                  · rw [if_neg c24] at H
                    exact absurd H (by simp)
                · rw [if_neg c23] at H
                  exact absurd H (by simp)

-- this session's own plain form
def pleachref35_Is.f (a0_0 : Int) (l0_1 : List ByteArray) (a0_2 : ByteArray) (a0_3 : ByteArray) : Option Bool := some (decide (M.isC a0_0 l0_1 a0_2 a0_3))
theorem pleachref35_Is.ne {a b : ByteArray} : (a.toList != b.toList) = decide (a ≠ b) := by
  by_cases h : a = b
  · subst h; simp
  · rw [decide_eq_true h, bne_iff_ne, M.toList_bs, M.toList_bs]
    exact fun e => h (M.bs_inj e)
theorem pleachref35_Is.loop (n : Int) (ps : List ByteArray) (g note : ByteArray) (hl : ps.length ≤ 2) :
    pleachref35_Is_p.l0 9 (ps.length : Int) 0 n ps g note = some (decide ((∀ p ∈ ps, p.size = 32) ∧ (ps.length = 2 → ps.getD 0 ByteArray.empty ≠ ps.getD 1 ByteArray.empty))) := by
  match ps, hl with
  | [], _ => rw [pleachref35_Is_p.l0, if_neg (by simp), if_pos (by simp), decide_eq_true ⟨by simp, by simp⟩]
  | [a], _ =>
    have r0 : rdOf ByteArray.empty [a] 0 = a := rfl
    rw [pleachref35_Is_p.l0, if_pos (by simp), if_pos (by decide), if_pos (by simp), r0]
    by_cases ha : a.size = 32
    · rw [if_pos (by omega), show wrap64 (0 + 1) = 1 from M.wrap64_id (i := 1) (by decide) (by decide), pleachref35_Is_p.l0, if_neg (by simp), if_pos (by simp), decide_eq_true ⟨by simp [ha], by simp⟩]
    · rw [if_neg (by omega), decide_eq_false (fun z => ha (z.1 a List.mem_cons_self))]
  | [a, b], _ =>
    have r0 : rdOf ByteArray.empty [a, b] 0 = a := rfl
    have r1 : rdOf ByteArray.empty [a, b] 1 = b := rfl
    rw [pleachref35_Is_p.l0, if_pos (by simp), if_pos (by decide), if_pos (by simp), r0]
    by_cases ha : a.size = 32
    · rw [if_pos (by omega), show wrap64 (0 + 1) = 1 from M.wrap64_id (i := 1) (by decide) (by decide), pleachref35_Is_p.l0, if_pos (by simp), if_pos (by decide), if_pos (by simp), r1]
      by_cases hb : b.size = 32
      · rw [if_pos (by omega), show wrap64 (1 + 1) = 2 from M.wrap64_id (i := 2) (by decide) (by decide), pleachref35_Is_p.l0, if_neg (by simp), if_neg (by simp), if_pos (by simp), if_pos (by simp), r0, r1, pleachref35_Is.ne]
        congr 1
        exact decide_eq_decide.2 ⟨fun h => ⟨by simp [ha, hb], fun _ => h⟩, fun h => h.2 rfl⟩
      · rw [if_neg (by omega), decide_eq_false (fun z => hb (z.1 b (by simp)))]
    · rw [if_neg (by omega), decide_eq_false (fun z => ha (z.1 a List.mem_cons_self))]
theorem pleachref35_Is.ev (n : Int) (ps : List ByteArray) (g note : ByteArray) (r : Bool) (h : pleachref35_Is.f n ps g note = some r) : ∃ k, pleachref35_Is_p.f k n ps g note = some r := by
  unfold pleachref35_Is.f at h
  obtain rfl := Option.some.inj h
  refine ⟨10, ?_⟩
  unfold pleachref35_Is_p.f
  by_cases c1 : n < 1
  · rw [if_pos c1, pleachref35_Is_p.j0, if_pos rfl, decide_eq_false (fun z => by have := z.1.1; omega)]
  rw [if_neg c1]
  by_cases c2 : n > 4294967295
  · rw [if_pos c2, pleachref35_Is_p.j0, if_pos rfl, decide_eq_false (fun z => by have := z.1.2; omega)]
  rw [if_neg c2]
  by_cases c3 : ps.length > 2
  · rw [if_pos (by omega), pleachref35_Is_p.j0, if_pos rfl, decide_eq_false (fun z => by have := z.2.1; omega)]
  rw [if_neg (by omega)]
  by_cases c4 : g.size = 32
  · rw [if_pos (by omega), pleachref35_Is_p.j0]
    by_cases c5 : note.size > 40
    · rw [if_pos (decide_eq_true (by omega)), decide_eq_false (fun z => by have := z.2.2.2.1; omega)]
    · rw [if_neg (by simp; omega), pleachref35_Is.loop n ps g note (by omega)]
      congr 1
      exact decide_eq_decide.2 ⟨fun c6 => ⟨⟨by omega, by omega⟩, by omega, c4, by omega, c6⟩, fun z => z.2.2.2.2⟩
  · rw [if_neg (by omega), pleachref35_Is_p.j0, if_pos rfl, decide_eq_false (fun z => c4 z.2.2.1)]
theorem pleachref35_Is.calls (a0_0 : Int) (A0_1 : Option Addr) (c0_1 : Nat) (l0_1 : List ByteArray) (a0_2 : ByteArray) (a0_3 : ByteArray) (r : Bool) (w : World) (hr0_1 : Kd.C Kd.string w A0_1 l0_1.length l0_1) (hc0_1 : l0_1.length ≤ c0_1) (h : pleachref35_Is.f a0_0 l0_1 a0_2 a0_3 = some r) :
    Calls Tryd.prog 14 #[.agg #[.int .i64 a0_0, .slice A0_1 l0_1.length c0_1, .string a0_2, .string a0_3]] w fun e w' => e = .returned (.bool r) ∧ Below w.heap.size w w' := by
  obtain ⟨k, hk⟩ := pleachref35_Is.ev _ _ _ _ _ h
  exact pleachref35_Is_p.calls (k := k) (w := w) (h := hk) (hr0_1 := hr0_1) (hc0_1 := hc0_1)

/-! ### commit_Store: function 16 -/
theorem commit_Store.put_ (base g : Nat) (F : Nat → Prop) (s s1 : M.SS) (t n : ByteArray) (e1 : Int) (w : World) (hS : M.Sh Tryd.prog base w g F s) (hT : M.stab w) (hz : t.size ≤ 65536) (hts : s.ts.length ≤ 1000000) (h1 : (s.put t).1 = n) (h2 : (s.put t).2.1 = e1) (h3 : (s.put t).2.2 = s1) :
    Calls Tryd.prog 23 #[.pointer (some ⟨g, 0, none⟩), .string t] w fun e w' => e = .returned (.tuple #[.string n, .int .i64 e1]) ∧ M.ShTo Tryd.prog base w g F s1 w' := by
  subst h1 h2 h3
  exact shelf_Shelf_Put.any base g F s t w hS hT (by omega) (by omega)
/-- A commit that may not be. -/
theorem commit_Store.bad (base g : Nat) (F : Nat → Prop) (s : M.SS) (n : Int) (A : Option Addr) (c : Nat) (ps : List ByteArray) (gr note : ByteArray) (w : World) (hr : Kd.C Kd.string w A ps.length ps) (hc : ps.length ≤ c) (hi : ¬ M.isC n ps gr note) :
    Calls Tryd.prog 16 #[.pointer (some ⟨g, 0, none⟩), .agg #[.int .i64 n, .slice A ps.length c, .string gr, .string note]] w fun e w' => e = .returned (.tuple #[.string ByteArray.empty, .int .i64 2]) ∧ Below w.heap.size w w' := by
  have HP : Aside0 (commit_Put.f n ps gr note = some (⟨#[]⟩, 2)) := ⟨by unfold commit_Put.f; rw [if_neg hi]⟩
  have HB := Aside0.mk (below_alloc (Below.refl w.heap.size w) (.cells #[.int .i64 n, .slice A ps.length c, .string gr, .string note] 24))
  have HR := Aside0.mk (Kd.C_below hr HB.out)
  clear hr hi
  go_enter Tryd.func16, Tryd.ntmps16
  go_wp2_with (first | (go_at_call 13; (with_reducible refine (commit_Put.calls n A c ps gr note _ 2 _ HR.out hc HP.out).mono ?_); rintro e w1 ⟨rfl, hb1⟩; have HB1 := Aside0.mk (below_step HB.out hb1); clear hb1))
  exact bodyPost_ret (v := .tuple #[.string ByteArray.empty, .int .i64 2]) (by simp [results, Tryd.results16, go_sem] <;> rfl) rfl ⟨rfl, HB1.out⟩
set_option maxHeartbeats 8000000 in
set_option maxRecDepth 100000 in
theorem commit_Store.good (base g : Nat) (F : Nat → Prop) (s s1 : M.SS) (nm : ByteArray) (e1 : Int) (n : Int) (A : Option Addr) (c : Nat) (ps : List ByteArray) (gr note : ByteArray) (w : World) (hr : Kd.C Kd.string w A ps.length ps) (hc : ps.length ≤ c) (hi : M.isC n ps gr note)
    (hS : M.Sh Tryd.prog base w g F s) (hT : M.stab w) (hz : (M.sb (M.cput n ps gr note)).size ≤ 65536) (hts : s.ts.length ≤ 1000000) (h1 : (s.put (M.sb (M.cput n ps gr note))).1 = nm) (h2 : (s.put (M.sb (M.cput n ps gr note))).2.1 = e1) (h3 : (s.put (M.sb (M.cput n ps gr note))).2.2 = s1) :
    Calls Tryd.prog 16 #[.pointer (some ⟨g, 0, none⟩), .agg #[.int .i64 n, .slice A ps.length c, .string gr, .string note]] w fun e w' => e = .returned (.tuple #[.string nm, .int .i64 e1]) ∧ ∃ F', M.Sh Tryd.prog base w' g F' s1 ∧ Below base w w' := by
  have HP : Aside0 (commit_Put.f n ps gr note = some (M.sb (M.cput n ps gr note), 0)) := ⟨by unfold commit_Put.f; rw [if_pos hi]⟩
  generalize M.sb (M.cput n ps gr note) = t at *
  have HB := Aside0.mk (below_alloc (Below.refl w.heap.size w) (.cells #[.int .i64 n, .slice A ps.length c, .string gr, .string note] 24))
  have HR := Aside0.mk (Kd.C_below hr HB.out)
  have HS := Aside0.mk hS
  have HT := Aside0.mk hT
  have hlt := Aside0.mk (M.stab_lt hT)
  have H1 := Aside0.mk h1
  have H2 := Aside0.mk h2
  have H3 := Aside0.mk h3
  have HBL := Aside0.mk hS.base_le
  clear hr hi hS hT h1 h2 h3
  go_enter Tryd.func16, Tryd.ntmps16
  go_wp2_with (first | (go_at_call 13; (with_reducible refine (commit_Put.calls n A c ps gr note t 0 _ HR.out hc HP.out).mono ?_); rintro e w1 ⟨rfl, hb1⟩; have HB1 := Aside0.mk (below_step HB.out hb1); have HT1 := Aside0.mk (M.stab_below HT.out HB1.out hlt.out); have HS1 := Aside0.mk (HS.out.below HB1.out); clear hb1) | (go_at_call 23; (with_reducible refine (commit_Store.put_ base g F s s1 t nm e1 _ HS1.out HT1.out hz hts H1.out H2.out H3.out).mono ?_); rintro e w2 ⟨rfl, F2, hs2, hf2, hk2, hb2⟩; have HS2 := Aside0.mk hs2; have HB2 := Aside0.mk ((HB1.out.mono HBL.out).trans hb2); clear hs2 hf2 hk2 hb2))
  exact bodyPost_ret (v := .tuple #[.string nm, .int .i64 e1]) (by simp [results, Tryd.results16, go_sem]) rfl ⟨rfl, F2, HS2.out, HB2.out⟩

/-! ### pleachref01_Digits_p: function 69 -/
def pleachref01_Digits_p.l0 : Nat → Int → List Int → Option (List Int)
  | 0, _, _ => none
  | k + 1, x0, x3 => if x0 > 0 then (if x3.length < 17592186044416 then (pleachref01_Digits_p.l0 k (IntKind.u64.wrap (Int.tdiv x0 128)) (x3 ++ [wrap64 (Int.tmod x0 128)])) else (none)) else (some x3)
def pleachref01_Digits_p.f (k : Nat) (a0 : Int) : Option (List Int) := pleachref01_Digits_p.l0 k (IntKind.u64.wrap (Int.tdiv a0 128)) (([wrap64 (Int.tmod a0 128)] : List Int))
theorem pleachref01_Digits_p.mono_l : ∀ k, (∀ y0 y1, LeO (pleachref01_Digits_p.l0 k y0 y1) (pleachref01_Digits_p.l0 (k + 1) y0 y1))
  | 0 => fun _ _ r h => by simp [pleachref01_Digits_p.l0] at h
  | k + 1 => by
    have ih0 := pleachref01_Digits_p.mono_l k
    · intro y0 y1
      unfold pleachref01_Digits_p.l0
      repeat' first
      | (with_reducible exact ih0 _ _)
      | (with_reducible exact LeO.refl _)
      | (with_reducible exact LeO.none _)
      | (with_reducible refine LeO.ite ?_ ?_)
      | (with_reducible refine LeO.bind ?_ (fun _ => ?_))
      | exact ih0 _ _
      | exact LeO.none _
      | refine LeO.ite ?_ ?_
      | refine LeO.bind ?_ (fun _ => ?_)
theorem pleachref01_Digits_p.mono : ∀ a0 k, LeO (pleachref01_Digits_p.f k a0) (pleachref01_Digits_p.f (k + 1) a0) := by
  intro a0 k
  have ih0 := pleachref01_Digits_p.mono_l k
  unfold pleachref01_Digits_p.f
  repeat' first
      | (with_reducible exact ih0 _ _)
      | (with_reducible exact LeO.refl _)
      | (with_reducible exact LeO.none _)
      | (with_reducible refine LeO.ite ?_ ?_)
      | (with_reducible refine LeO.bind ?_ (fun _ => ?_))
      | exact ih0 _ _
      | exact LeO.none _
      | refine LeO.ite ?_ ?_
      | refine LeO.bind ?_ (fun _ => ?_)
set_option maxHeartbeats 8000000 in
set_option maxRecDepth 100000 in
theorem pleachref01_Digits_p.calls (k : Nat) (a0 : Int) (r : List Int) (w : World) (h : pleachref01_Digits_p.f k a0 = some r) :
    Calls Tryd.prog 69 #[.int .u64 a0] w fun e w' => ∃ v0_ : Value, e = .returned (v0_) ∧ Kd.R (Kd.int .i64) 3 w' w.heap.size (fun _ => True) v0_ r ∧ Below w.heap.size w w' := by
  have HB := Aside0.mk (Below.refl w.heap.size w)
  have H : (pleachref01_Digits_p.l0 k (IntKind.u64.wrap (Int.tdiv a0 128)) (([wrap64 (Int.tmod a0 128)] : List Int))) = some r := h
  clear h
  obtain ⟨y202, hy202⟩ : ∃ y_ : List Int, y_ = (([wrap64 (Int.tmod a0 128)] : List Int)) := ⟨_, rfl⟩
  replace H : (pleachref01_Digits_p.l0 k (IntKind.u64.wrap (Int.tdiv a0 128)) y202) = some r := by first | (rw [hy202]; with_reducible exact H) | (have H2_ := (Option.bind_some _ _).symm.trans H; rw [hy202]; with_reducible exact H2_) | (have H2_ := (Option.bind_some _ _).symm.trans H; with_reducible exact H2_) | with_reducible exact H | (rw [hy202]; exact H) | exact H
  have Ny202 := Aside0.mk hy202
  clear hy202
  have H' := Aside0.mk H
  clear H
  go_enter Tryd.func69, Tryd.ntmps69
  go_wp2_with (first | ((with_reducible refine gate_dst (N := 7) rfl ?_); refine Kd.R_lit (Kd.int .i64) _ 3 ?hg (N := 7) ?hd (xs := ([wrap64 (Int.tmod a0 128)] : List Int)) (inner := [.int .i64 (wrap64 (Int.tmod a0 128))]) (ok := fun _ => True) (okp := fun _ => True) ?hr ?hp (fun _ hk => hk) trivial (Below.refl _ _) (Nat.le_refl _) (by simp) ?_; (case hd => rfl); (case hg => rfl); (case hr => first | (go_simp; done) | (go_simp; rfl)); (case hp => exact (Reps.one (show Kd.M (Kd.int .i64) _ _ _ (wrap64 (Int.tmod a0 128)) [.int .i64 (wrap64 (Int.tmod a0 128))] from rfl) (Reps.none _ _))); intro v203 w2 ho3 hb hg_ hnew_; clear hg_ hnew_; (first | rw [← Ny202.out] at ho3 | (simp only [Int.reduceToNat] at ho3; rw [← Ny202.out] at ho3)); have n0_ := Aside0.mk (Kd.R_lower ho3 (below_size (M.up HB))); have n1_ := M.upS HB hb; clear HB; have HO204 := n0_; have HB := n1_; clear n0_ n1_; clear hb ho3))
  go_loopg [0, 3] k (fun kq v0 v3 w' => ∃ (x0_1 : Int) (x3_1 : List Int), v0 = .int .u64 x0_1 ∧ Aside0 (pleachref01_Digits_p.l0 kq x0_1 x3_1 = some r) ∧ Aside0 (kq ≤ k) ∧ Aside0 (Kd.R (Kd.int .i64) 3 w' w.heap.size (fun _ => True) v3 x3_1) ∧ Aside0 (Below w.heap.size w w'))
  case atStart => exact ⟨(IntKind.u64.wrap (Int.tdiv a0 128)), (y202), (by first | rfl | (simp; done) | (simp [*]; done) | (simp [M.isEmpty_bne]; done)), H', ⟨Nat.le_refl _⟩, ⟨by (with_reducible repeat (first | apply Kd.R_alloc | apply Kd.R_drewN | apply Kd.R_drew)); exact HO204.out⟩, ⟨M.up HB⟩⟩
  case round =>
    clear H'
    try clear p2
    obtain ⟨x0_1, x3_1, rfl, HA, HK1, zbA, HB⟩ := hrel
    cases gk with
    | zero => exact absurd HA.out (by simp [pleachref01_Digits_p.l0])
    | succ k1 =>
      have H := HA.out
      clear HA
      simp only [pleachref01_Digits_p.l0] at H
      by_cases c4 : x0_1 > 0
      · rw [if_pos c4] at H
        have c4b0 : decide (0 < x0_1) = true := decide_eq_true c4
        clear c4
        by_cases c5 : x3_1.length < 17592186044416
        · rw [if_pos c5] at H
          have LMc5 := Aside0.mk c5
          clear c5
          obtain ⟨y205, hy205⟩ : ∃ y_ : List Int, y_ = (x3_1 ++ [wrap64 (Int.tmod x0_1 128)]) := ⟨_, rfl⟩
          replace H : (pleachref01_Digits_p.l0 k1 (IntKind.u64.wrap (Int.tdiv x0_1 128)) y205) = some r := by first | (rw [hy205]; with_reducible exact H) | (have H2_ := (Option.bind_some _ _).symm.trans H; rw [hy205]; with_reducible exact H2_) | (have H2_ := (Option.bind_some _ _).symm.trans H; with_reducible exact H2_) | with_reducible exact H | (rw [hy205]; exact H) | exact H
          have Ny205 := Aside0.mk hy205
          clear hy205
          have H' := Aside0.mk H
          clear H
          go_wp2_with (first | ((with_reducible refine gate_builtin (b := .append) (xs := #[.tmp 12, .tmp 16]) rfl ?_); at_builtin; refine Kd.R_append (Kd.int .i64) (w0 := w) w.heap.size rfl (.tmp 12) (.tmp 16) 60 3 (.int .i64 0) 8 rfl Tryd.underlying60 info3 rfl (by decide) (by omega) u3 x3_1 (wrap64 (Int.tmod x0_1 128)) [.int .i64 (wrap64 (Int.tmod x0_1 128))] (fun _ => True) (fun _ => False) rfl rfl ?aP (fun _ hk => hk.elim) ?aF ?aO ?aB ?aS ?aL ?_; (case aP => exact rfl); (case aB => exact (M.up HB)); (case aF => exact (fun _ _ => trivial)); (case aO => exact (M.ro zbA)); (case aS => exact (below_size (M.up HB))); (case aL => have := LMc5.out; omega); intro v206 w6 ho hb hg hat; rw [← Ny205.out] at ho; have n0_ := Aside0.mk (hb); have n1_ := Aside0.mk (ho); clear HB zbA; have HB := n0_; have HO207 := n1_; clear n0_ n1_; clear ho hb hg hat))
          go_roundg k1
          case measure => have := HK1.out; omega
          case rel => exact ⟨(IntKind.u64.wrap (Int.tdiv x0_1 128)), (y205), (by first | rfl | (simp; done) | (simp [*]; done) | (simp [M.isEmpty_bne]; done)), H', ⟨by have := HK1.out; omega⟩, ⟨by (with_reducible repeat (first | apply Kd.R_alloc | apply Kd.R_drewN | apply Kd.R_drew)); exact HO207.out⟩, ⟨M.up HB⟩⟩
        · rw [if_neg c5] at H
          exact absurd H (by simp)
      · rw [if_neg c4] at H
        have c4b0 : decide (0 < x0_1) = false := decide_eq_false c4
        clear c4
        obtain rfl := Option.some.inj H
        go_wp2
        go_ret
        exact ⟨_, by first | rfl | (simp [errW_none, errW_some] <;> rfl) | (simp [*, errW_none, errW_some] <;> rfl), by (with_reducible repeat (first | apply Kd.R_alloc | apply Kd.R_drewN | apply Kd.R_drew)); exact zbA.out, M.up HB⟩

-- this session's own plain form
def pleachref01_Digits.f (a0 : Int) : Option (List Int) := if 0 ≤ a0 ∧ a0 < 18446744073709551616 then some (M.vdig a0.toNat) else none
theorem pleachref01_Digits.loop (d : Nat) : ∀ (m : Nat) (pre : List Int), m < 128 ^ d → m < 18446744073709551616 → pre.length + d ≤ 100 →
    ∃ k, pleachref01_Digits_p.l0 k (m : Int) pre = some (if m = 0 then pre else pre ++ M.vdig m) := by
  induction d with
  | zero => ?_
  | succ d ih => ?_
  all_goals
    intro m pre hm h64 hl
    by_cases h0 : m = 0
    case pos => exact ⟨1, by simp only [pleachref01_Digits_p.l0]; rw [if_neg (by omega), if_pos h0]⟩
    case neg =>
      first
      | (exfalso; simp at hm; omega)
      | (obtain ⟨k, hk⟩ := ih (m / 128) (pre ++ [((m % 128 : Nat) : Int)]) (by rw [Nat.pow_succ] at hm; omega) (by omega) (by simp; omega)
         refine ⟨k + 1, ?_⟩
         have e1 : IntKind.u64.wrap (Int.tdiv (m : Int) 128) = ((m / 128 : Nat) : Int) := by
           rw [Int.tdiv_eq_ediv_of_nonneg (by omega), M.u64_id (by omega) (by omega)]; omega
         have e2 : wrap64 (Int.tmod (m : Int) 128) = ((m % 128 : Nat) : Int) := by
           rw [Int.tmod_eq_emod_of_nonneg (by omega), M.wrap64_id (by omega) (by omega)]; omega
         simp only [pleachref01_Digits_p.l0]
         rw [if_pos (by omega), if_pos (by omega), e1, e2, hk, if_neg h0]
         by_cases h1 : m < 128
         · rw [if_pos (by omega), M.vdig_low h1, Nat.mod_eq_of_lt h1]
         · rw [if_neg (by omega), M.vdig_high h1]; simp)
theorem pleachref01_Digits.ev (a0 : Int) (r : List Int) (h : pleachref01_Digits.f a0 = some r) : ∃ k, pleachref01_Digits_p.f k a0 = some r := by
  unfold pleachref01_Digits.f at h
  split at h
  · rename_i hh
    obtain rfl := Option.some.inj h
    obtain ⟨m, rfl⟩ := Int.eq_ofNat_of_zero_le hh.1
    have e1 : IntKind.u64.wrap (Int.tdiv (m : Int) 128) = ((m / 128 : Nat) : Int) := by
      rw [Int.tdiv_eq_ediv_of_nonneg (by omega), M.u64_id (by omega) (by omega)]; omega
    have e2 : wrap64 (Int.tmod (m : Int) 128) = ((m % 128 : Nat) : Int) := by
      rw [Int.tmod_eq_emod_of_nonneg (by omega), M.wrap64_id (by omega) (by omega)]; omega
    obtain ⟨k, hk⟩ := pleachref01_Digits.loop 9 (m / 128) [((m % 128 : Nat) : Int)] (by omega) (by omega) (by simp)
    refine ⟨k, ?_⟩
    unfold pleachref01_Digits_p.f
    rw [e1, e2, hk, Int.toNat_natCast]
    by_cases h1 : m < 128
    · rw [if_pos (by omega), M.vdig_low h1, Nat.mod_eq_of_lt h1]
    · rw [if_neg (by omega), M.vdig_high h1]; simp
  · cases h
theorem pleachref01_Digits.calls (a0 : Int) (r : List Int) (w : World) (h : pleachref01_Digits.f a0 = some r) :
    Calls Tryd.prog 69 #[.int .u64 a0] w fun e w' => ∃ v0_ : Value, e = .returned (v0_) ∧ Kd.R (Kd.int .i64) 3 w' w.heap.size (fun _ => True) v0_ r ∧ Below w.heap.size w w' := by
  obtain ⟨k, hk⟩ := pleachref01_Digits.ev _ _ h
  exact pleachref01_Digits_p.calls (k := k) (w := w) (h := hk)

end Go.Proofs.YtikdbklmhjlfoaaDoor.ECommitPuts
