-- Written by this session's own program (wip/tools/ext.py) for this claim; Lean checks it.
import Derived.Test.YtadpicphohobbaaEDeltaTakesx0
namespace Go.Proofs.Ytadpicphohobbaa.EDeltaTakes
open Go.RowKit Go.Proofs.YtadpicphohobbaaW.PrintWords Go.Proofs.YtadpicphohobbaaW.PrintLast Go.Proofs.YtadpicphohobbaaW.PrintMore
attribute [local go_sem] M.run_leq M.run_gtr M.run_geq max2_int min2_int max_two min_two max_three min_three max_four min_four   -- for this text's walks alone
set_option linter.unusedVariables false
set_option linter.unusedSimpArgs false

/-! ### delta_Check_p: function 14 -/
mutual
def delta_Check_p.j0 : Nat → Bool → Bool → Int → Int → ByteArray → Option (Int)
  | 0, _, _, _, _, _ => none
  | k + 1, x3, zaa, zab, zac, zad => if x3 = true then (some 2) else (if zaa = true then (if zab < 0 then (delta_Check_p.j1 k true zaa zab zac zad) else (if zab > 65536 then (delta_Check_p.j1 k true zaa zab zac zad) else (delta_Check_p.j1 k (zad.toList != ([] : List UInt8)) zaa zab zac zad))) else (delta_Check_p.j1 k false zaa zab zac zad))
def delta_Check_p.j1 : Nat → Bool → Bool → Int → Int → ByteArray → Option (Int)
  | 0, _, _, _, _, _ => none
  | k + 1, x12, zaa, zab, zac, zad => if x12 = true then (some 2) else (if zaa = true then (delta_Check_p.j2 k false) else (if zab = 0 then (delta_Check_p.j2 k (zac != (zad.size : Int))) else (delta_Check_p.j2 k true)))
def delta_Check_p.j2 : Nat → Bool → Option (Int)
  | 0, _ => none
  | k + 1, x30 => if x30 = true then (some 2) else (some 0)
end
def delta_Check_p.f (k : Nat) (a0_0 : Bool) (a0_1 : Int) (a0_2 : Int) (a0_3 : ByteArray) : Option (Int) := if a0_2 < 1 then (delta_Check_p.j0 k true a0_0 a0_1 a0_2 a0_3) else (delta_Check_p.j0 k (decide (a0_2 > 65536)) a0_0 a0_1 a0_2 a0_3)
theorem delta_Check_p.mono_l : ∀ k, (∀ y0 y1 y2 y3 y4, LeO (delta_Check_p.j0 k y0 y1 y2 y3 y4) (delta_Check_p.j0 (k + 1) y0 y1 y2 y3 y4)) ∧ (∀ y0 y1 y2 y3 y4, LeO (delta_Check_p.j1 k y0 y1 y2 y3 y4) (delta_Check_p.j1 (k + 1) y0 y1 y2 y3 y4)) ∧ (∀ y0, LeO (delta_Check_p.j2 k y0) (delta_Check_p.j2 (k + 1) y0))
  | 0 => ⟨fun _ _ _ _ _ r h => by simp [delta_Check_p.j0] at h, fun _ _ _ _ _ r h => by simp [delta_Check_p.j1] at h, fun _ r h => by simp [delta_Check_p.j2] at h⟩
  | k + 1 => by
    obtain ⟨ih0, ih1, ih2⟩ := delta_Check_p.mono_l k
    refine ⟨?_, ?_, ?_⟩
    · intro y0 y1 y2 y3 y4
      unfold delta_Check_p.j0
      repeat' first
      | (with_reducible exact ih0 _ _ _ _ _)
      | (with_reducible exact ih1 _ _ _ _ _)
      | (with_reducible exact ih2 _)
      | (with_reducible exact LeO.refl _)
      | (with_reducible exact LeO.none _)
      | (with_reducible refine LeO.ite ?_ ?_)
      | (with_reducible refine LeO.bind ?_ (fun _ => ?_))
      | exact ih0 _ _ _ _ _
      | exact ih1 _ _ _ _ _
      | exact ih2 _
      | exact LeO.none _
      | refine LeO.ite ?_ ?_
      | refine LeO.bind ?_ (fun _ => ?_)
    · intro y0 y1 y2 y3 y4
      unfold delta_Check_p.j1
      repeat' first
      | (with_reducible exact ih0 _ _ _ _ _)
      | (with_reducible exact ih1 _ _ _ _ _)
      | (with_reducible exact ih2 _)
      | (with_reducible exact LeO.refl _)
      | (with_reducible exact LeO.none _)
      | (with_reducible refine LeO.ite ?_ ?_)
      | (with_reducible refine LeO.bind ?_ (fun _ => ?_))
      | exact ih0 _ _ _ _ _
      | exact ih1 _ _ _ _ _
      | exact ih2 _
      | exact LeO.none _
      | refine LeO.ite ?_ ?_
      | refine LeO.bind ?_ (fun _ => ?_)
    · intro y0
      unfold delta_Check_p.j2
      repeat' first
      | (with_reducible exact ih0 _ _ _ _ _)
      | (with_reducible exact ih1 _ _ _ _ _)
      | (with_reducible exact ih2 _)
      | (with_reducible exact LeO.refl _)
      | (with_reducible exact LeO.none _)
      | (with_reducible refine LeO.ite ?_ ?_)
      | (with_reducible refine LeO.bind ?_ (fun _ => ?_))
      | exact ih0 _ _ _ _ _
      | exact ih1 _ _ _ _ _
      | exact ih2 _
      | exact LeO.none _
      | refine LeO.ite ?_ ?_
      | refine LeO.bind ?_ (fun _ => ?_)
theorem delta_Check_p.mono : ∀ a0 a1 a2 a3 k, LeO (delta_Check_p.f k a0 a1 a2 a3) (delta_Check_p.f (k + 1) a0 a1 a2 a3) := by
  intro a0 a1 a2 a3 k
  obtain ⟨ih0, ih1, ih2⟩ := delta_Check_p.mono_l k
  unfold delta_Check_p.f
  repeat' first
      | (with_reducible exact ih0 _ _ _ _ _)
      | (with_reducible exact ih1 _ _ _ _ _)
      | (with_reducible exact ih2 _)
      | (with_reducible exact LeO.refl _)
      | (with_reducible exact LeO.none _)
      | (with_reducible refine LeO.ite ?_ ?_)
      | (with_reducible refine LeO.bind ?_ (fun _ => ?_))
      | exact ih0 _ _ _ _ _
      | exact ih1 _ _ _ _ _
      | exact ih2 _
      | exact LeO.none _
      | refine LeO.ite ?_ ?_
      | refine LeO.bind ?_ (fun _ => ?_)
set_option maxHeartbeats 8000000 in
set_option maxRecDepth 100000 in
theorem delta_Check_p.calls (k : Nat) (a0_0 : Bool) (a0_1 : Int) (a0_2 : Int) (a0_3 : ByteArray) (r : Int) (w : World) (h : delta_Check_p.f k a0_0 a0_1 a0_2 a0_3 = some r) :
    Calls Try.prog 14 #[.agg #[.bool a0_0, .int .i64 a0_1, .int .i64 a0_2, .string a0_3]] w fun e w' => e = .returned (.int .i64 r) ∧ Below w.heap.size w w' := by
  have hu34 := Try.underlying34
  have HB := Aside0.mk (Below.refl w.heap.size w)
  have H : (if a0_2 < 1 then (delta_Check_p.j0 k true a0_0 a0_1 a0_2 a0_3) else (delta_Check_p.j0 k (decide (a0_2 > 65536)) a0_0 a0_1 a0_2 a0_3)) = some r := h
  clear h
  have HC2 := Aside0.mk H
  clear H
  go_enter Try.func14, Try.ntmps14
  go_upto_region 1 with (first | ((with_reducible refine gate_dst (N := 1) rfl ?_); (try (refine gate_guard (by rfl) ?_; dsimp only)); refine box_event ?hg (N := 1) ?hd (cs := #[.bool a0_0, .int .i64 a0_1, .int .i64 a0_2, .string a0_3]) (t := 34) ?hr ?_; (case hd => rfl); (case hg => rfl); (case hr => first | (go_simp; done) | (go_simp; rfl)); intro zae hg w3 hbox hb; have n0_ := M.upS HB hb; have n1_ := Aside0.mk (hbox); have n2_ := M.upG HB hg; have n3_ := M.upG HB hg; clear HB; have HB := n0_; have zaf := n1_; have zag := n2_; have zah := n3_; clear n0_ n1_ n2_ n3_; clear hb hbox hg))
  (try simp only [Act.put, List.setIfInBounds_toArray, List.set_cons_zero, List.set_cons_succ])
  go_cut [3] (fun v3 wc => ∃ (kq : Nat) (x3_1 : Bool), v3 = .bool x3_1 ∧ Aside0 (delta_Check_p.j0 kq x3_1 a0_0 a0_1 a0_2 a0_3 = some r) ∧ Aside0 (kq ≤ k) ∧ Aside0 (wc.heap[zae]? = some (.cells #[.bool a0_0, .int .i64 a0_1, .int .i64 a0_2, .string a0_3] 34 (0, 0))) ∧ Aside0 (Below w.heap.size w wc))
  case first =>
    have H := HC2.out
    clear HC2
    by_cases c4 : a0_2 < 1
    · rw [if_pos c4] at H
      have c4b0 : decide (a0_2 < 1) = true := decide_eq_true c4
      clear c4
      (first | rw [c4b0] | (simp only [i64_w, i32_w]; rw [c4b0]) | skip)
      have H' := Aside0.mk H
      clear H
      have zai : w3.cell? ⟨zae, 0, none⟩ = some (.bool a0_0) := (blk_cell zaf.out 0).trans rfl
      have zaj : w3.cell? ⟨zae, 1, none⟩ = some (.int .i64 a0_1) := (blk_cell zaf.out 1).trans rfl
      have zak : w3.cell? ⟨zae, 2, none⟩ = some (.int .i64 a0_2) := (blk_cell zaf.out 2).trans rfl
      have zal : w3.cell? ⟨zae, 3, none⟩ = some (.string a0_3) := (blk_cell zaf.out 3).trans rfl
      have zam := blk_frozen zaf.out 0
      have zan := blk_frozen zaf.out 1
      have zao := blk_frozen zaf.out 2
      have zap := blk_frozen zaf.out 3
      go_wp2
      go_meet
      case rel => exact ⟨_, (true), (by first | rfl | (simp; done) | (simp [*]; done) | (simp [M.isEmpty_bne]; done)), H', ⟨by first | omega | exact Nat.le_refl _⟩, ⟨by (with_reducible repeat (first | refine blk_drewN ?_ _ | refine blk_drew ?_ | refine blk_alloc ?_ _)); exact zaf.out⟩, ⟨M.up HB⟩⟩
    · rw [if_neg c4] at H
      have c4b0 : decide (a0_2 < 1) = false := decide_eq_false c4
      clear c4
      (first | rw [c4b0] | (simp only [i64_w, i32_w]; rw [c4b0]) | skip)
      have H' := Aside0.mk H
      clear H
      have zaq : w3.cell? ⟨zae, 0, none⟩ = some (.bool a0_0) := (blk_cell zaf.out 0).trans rfl
      have zar : w3.cell? ⟨zae, 1, none⟩ = some (.int .i64 a0_1) := (blk_cell zaf.out 1).trans rfl
      have zas : w3.cell? ⟨zae, 2, none⟩ = some (.int .i64 a0_2) := (blk_cell zaf.out 2).trans rfl
      have zat : w3.cell? ⟨zae, 3, none⟩ = some (.string a0_3) := (blk_cell zaf.out 3).trans rfl
      have zau := blk_frozen zaf.out 0
      have zav := blk_frozen zaf.out 1
      have zaw := blk_frozen zaf.out 2
      have zax := blk_frozen zaf.out 3
      go_wp2
      go_meet
      case rel => exact ⟨_, (decide (a0_2 > 65536)), (by first | rfl | (simp; done) | (simp [*]; done) | (simp [M.isEmpty_bne]; done)), H', ⟨by first | omega | exact Nat.le_refl _⟩, ⟨by (with_reducible repeat (first | refine blk_drewN ?_ _ | refine blk_drew ?_ | refine blk_alloc ?_ _)); exact zaf.out⟩, ⟨M.up HB⟩⟩
  case rest =>
    clear HC2
    try clear c1
    try clear p2
    try clear c4
    try clear c4b0
    try clear zai
    try clear zaj
    try clear zak
    try clear zal
    try clear zaq
    try clear zar
    try clear zas
    try clear zat
    try clear zam
    try clear zan
    try clear zao
    try clear zap
    try clear zau
    try clear zav
    try clear zaw
    try clear zax
    obtain ⟨kq, x3_1, rfl, HA, HJ1, zaf, HB⟩ := hcut
    cases kq with
    | zero => exact absurd HA.out (by simp [delta_Check_p.j0])
    | succ kj1 =>
      have H := HA.out
      clear HA
      simp only [delta_Check_p.j0] at H
      by_cases c7 : x3_1 = true
      · subst c7
        have H1 : (some 2) = some r := by rw [if_pos rfl] at H; exact H
        clear H
        have H := H1
        clear H1
        obtain rfl := Option.some.inj H
        go_wp2
        go_ret
        exact M.fin (M.up HB)
      · replace c7 := Bool.eq_false_iff.mpr c7
        subst c7
        have H1 : (if a0_0 = true then (if a0_1 < 0 then (delta_Check_p.j1 kj1 true a0_0 a0_1 a0_2 a0_3) else (if a0_1 > 65536 then (delta_Check_p.j1 kj1 true a0_0 a0_1 a0_2 a0_3) else (delta_Check_p.j1 kj1 (a0_3.toList != ([] : List UInt8)) a0_0 a0_1 a0_2 a0_3))) else (delta_Check_p.j1 kj1 false a0_0 a0_1 a0_2 a0_3)) = some r := by rw [if_neg (show ¬ (false = true) by decide)] at H; exact H
        clear H
        have H := H1
        clear H1
        have HC8 := Aside0.mk H
        clear H
        go_upto_region 3 with (fail)
        go_cut [12] (fun v12 wc => ∃ (kq : Nat) (x12_7 : Bool), v12 = .bool x12_7 ∧ Aside0 (delta_Check_p.j1 kq x12_7 a0_0 a0_1 a0_2 a0_3 = some r) ∧ Aside0 (kq ≤ kj1) ∧ Aside0 (wc.heap[zae]? = some (.cells #[.bool a0_0, .int .i64 a0_1, .int .i64 a0_2, .string a0_3] 34 (0, 0))) ∧ Aside0 (Below w.heap.size w wc))
        case first =>
          have H := HC8.out
          clear HC8
          by_cases c9 : a0_0 = true
          · subst c9
            have H1 : (if a0_1 < 0 then (delta_Check_p.j1 kj1 true true a0_1 a0_2 a0_3) else (if a0_1 > 65536 then (delta_Check_p.j1 kj1 true true a0_1 a0_2 a0_3) else (delta_Check_p.j1 kj1 (a0_3.toList != ([] : List UInt8)) true a0_1 a0_2 a0_3))) = some r := by rw [if_pos rfl] at H; exact H
            clear H
            have H := H1
            clear H1
            by_cases c10 : a0_1 < 0
            · rw [if_pos c10] at H
              have c10b0 : decide (a0_1 < 0) = true := decide_eq_true c10
              clear c10
              (first | rw [c10b0] | (simp only [i64_w, i32_w]; rw [c10b0]) | skip)
              have H' := Aside0.mk H
              clear H
              have zay : wc.cell? ⟨zae, 0, none⟩ = some (.bool true) := (blk_cell zaf.out 0).trans rfl
              have zaz : wc.cell? ⟨zae, 1, none⟩ = some (.int .i64 a0_1) := (blk_cell zaf.out 1).trans rfl
              have zaA : wc.cell? ⟨zae, 2, none⟩ = some (.int .i64 a0_2) := (blk_cell zaf.out 2).trans rfl
              have zaB : wc.cell? ⟨zae, 3, none⟩ = some (.string a0_3) := (blk_cell zaf.out 3).trans rfl
              have zaC := blk_frozen zaf.out 0
              have zaD := blk_frozen zaf.out 1
              have zaE := blk_frozen zaf.out 2
              have zaF := blk_frozen zaf.out 3
              go_wp2
              go_meet
              case rel => exact ⟨_, (true), (by first | rfl | (simp; done) | (simp [*]; done) | (simp [M.isEmpty_bne]; done)), H', ⟨by have := HJ1.out; first | omega | exact Nat.le_refl _⟩, ⟨by (with_reducible repeat (first | refine blk_drewN ?_ _ | refine blk_drew ?_ | refine blk_alloc ?_ _)); exact zaf.out⟩, ⟨M.up HB⟩⟩
            · rw [if_neg c10] at H
              have c10b0 : decide (a0_1 < 0) = false := decide_eq_false c10
              clear c10
              (first | rw [c10b0] | (simp only [i64_w, i32_w]; rw [c10b0]) | skip)
              by_cases c12 : a0_1 > 65536
              · rw [if_pos c12] at H
                have c12b0 : decide (65536 < a0_1) = true := decide_eq_true c12
                clear c12
                have H' := Aside0.mk H
                clear H
                have zaG : wc.cell? ⟨zae, 0, none⟩ = some (.bool true) := (blk_cell zaf.out 0).trans rfl
                have zaH : wc.cell? ⟨zae, 1, none⟩ = some (.int .i64 a0_1) := (blk_cell zaf.out 1).trans rfl
                have zaI : wc.cell? ⟨zae, 2, none⟩ = some (.int .i64 a0_2) := (blk_cell zaf.out 2).trans rfl
                have zaJ : wc.cell? ⟨zae, 3, none⟩ = some (.string a0_3) := (blk_cell zaf.out 3).trans rfl
                have zaK := blk_frozen zaf.out 0
                have zaL := blk_frozen zaf.out 1
                have zaM := blk_frozen zaf.out 2
                have zaN := blk_frozen zaf.out 3
                go_wp2
                go_meet
                case rel => exact ⟨_, (true), (by first | rfl | (simp; done) | (simp [*]; done) | (simp [M.isEmpty_bne]; done)), H', ⟨by have := HJ1.out; first | omega | exact Nat.le_refl _⟩, ⟨by (with_reducible repeat (first | refine blk_drewN ?_ _ | refine blk_drew ?_ | refine blk_alloc ?_ _)); exact zaf.out⟩, ⟨M.up HB⟩⟩
              · rw [if_neg c12] at H
                have c12b0 : decide (65536 < a0_1) = false := decide_eq_false c12
                clear c12
                have H' := Aside0.mk H
                clear H
                have zaO : wc.cell? ⟨zae, 0, none⟩ = some (.bool true) := (blk_cell zaf.out 0).trans rfl
                have zaP : wc.cell? ⟨zae, 1, none⟩ = some (.int .i64 a0_1) := (blk_cell zaf.out 1).trans rfl
                have zaQ : wc.cell? ⟨zae, 2, none⟩ = some (.int .i64 a0_2) := (blk_cell zaf.out 2).trans rfl
                have zaR : wc.cell? ⟨zae, 3, none⟩ = some (.string a0_3) := (blk_cell zaf.out 3).trans rfl
                have zaS := blk_frozen zaf.out 0
                have zaT := blk_frozen zaf.out 1
                have zaU := blk_frozen zaf.out 2
                have zaV := blk_frozen zaf.out 3
                go_wp2
                go_meet
                case rel => exact ⟨_, ((a0_3.toList != ([] : List UInt8))), (by first | rfl | (simp; done) | (simp [*]; done) | (simp [M.isEmpty_bne]; done)), H', ⟨by have := HJ1.out; first | omega | exact Nat.le_refl _⟩, ⟨by (with_reducible repeat (first | refine blk_drewN ?_ _ | refine blk_drew ?_ | refine blk_alloc ?_ _)); exact zaf.out⟩, ⟨M.up HB⟩⟩
          · replace c9 := Bool.eq_false_iff.mpr c9
            subst c9
            have H1 : (delta_Check_p.j1 kj1 false false a0_1 a0_2 a0_3) = some r := by rw [if_neg (show ¬ (false = true) by decide)] at H; exact H
            clear H
            have H := H1
            clear H1
            have H' := Aside0.mk H
            clear H
            have zaW : wc.cell? ⟨zae, 0, none⟩ = some (.bool false) := (blk_cell zaf.out 0).trans rfl
            have zaX : wc.cell? ⟨zae, 1, none⟩ = some (.int .i64 a0_1) := (blk_cell zaf.out 1).trans rfl
            have zaY : wc.cell? ⟨zae, 2, none⟩ = some (.int .i64 a0_2) := (blk_cell zaf.out 2).trans rfl
            have zaZ : wc.cell? ⟨zae, 3, none⟩ = some (.string a0_3) := (blk_cell zaf.out 3).trans rfl
            have za0 := blk_frozen zaf.out 0
            have za1 := blk_frozen zaf.out 1
            have za2 := blk_frozen zaf.out 2
            have za3 := blk_frozen zaf.out 3
            go_wp2
            go_meet
            case rel => exact ⟨_, (false), (by first | rfl | (simp; done) | (simp [*]; done) | (simp [M.isEmpty_bne]; done)), H', ⟨by have := HJ1.out; first | omega | exact Nat.le_refl _⟩, ⟨by (with_reducible repeat (first | refine blk_drewN ?_ _ | refine blk_drew ?_ | refine blk_alloc ?_ _)); exact zaf.out⟩, ⟨M.up HB⟩⟩
        case rest =>
          clear HC8
          try clear c1
          try clear p2
          try clear c4
          try clear c4b0
          try clear c7
          try clear c9
          try clear c10
          try clear c10b0
          try clear c12
          try clear c12b0
          try clear c14
          try clear zay
          try clear zaz
          try clear zaA
          try clear zaB
          try clear zaG
          try clear zaH
          try clear zaI
          try clear zaJ
          try clear zaO
          try clear zaP
          try clear zaQ
          try clear zaR
          try clear zaW
          try clear zaX
          try clear zaY
          try clear zaZ
          try clear zai
          try clear zaj
          try clear zak
          try clear zal
          try clear zaq
          try clear zar
          try clear zas
          try clear zat
          try clear zaC
          try clear zaD
          try clear zaE
          try clear zaF
          try clear zaK
          try clear zaL
          try clear zaM
          try clear zaN
          try clear zaS
          try clear zaT
          try clear zaU
          try clear zaV
          try clear za0
          try clear za1
          try clear za2
          try clear za3
          try clear zam
          try clear zan
          try clear zao
          try clear zap
          try clear zau
          try clear zav
          try clear zaw
          try clear zax
          try clear p2
          obtain ⟨kq, x12_7, rfl, HA, HJ7, zaf, HB⟩ := hcut
          cases kq with
          | zero => exact absurd HA.out (by simp [delta_Check_p.j1])
          | succ kj7 =>
            have H := HA.out
            clear HA
            simp only [delta_Check_p.j1] at H
            by_cases c16 : x12_7 = true
            · subst c16
              have H1 : (some 2) = some r := by rw [if_pos rfl] at H; exact H
              clear H
              have H := H1
              clear H1
              obtain rfl := Option.some.inj H
              go_wp2
              go_ret
              exact M.fin (M.up HB)
            · replace c16 := Bool.eq_false_iff.mpr c16
              subst c16
              have H1 : (if a0_0 = true then (delta_Check_p.j2 kj7 false) else (if a0_1 = 0 then (delta_Check_p.j2 kj7 (a0_2 != (a0_3.size : Int))) else (delta_Check_p.j2 kj7 true))) = some r := by rw [if_neg (show ¬ (false = true) by decide)] at H; exact H
              clear H
              have H := H1
              clear H1
              have HC17 := Aside0.mk H
              clear H
              go_upto_region 5 with (fail)
              go_cut [30] (fun v30 wc => ∃ (kq : Nat) (x30_16 : Bool), v30 = .bool x30_16 ∧ Aside0 (delta_Check_p.j2 kq x30_16 = some r) ∧ Aside0 (kq ≤ kj7) ∧ Aside0 (wc.heap[zae]? = some (.cells #[.bool a0_0, .int .i64 a0_1, .int .i64 a0_2, .string a0_3] 34 (0, 0))) ∧ Aside0 (Below w.heap.size w wc))
              case first =>
                have H := HC17.out
                clear HC17
                by_cases c18 : a0_0 = true
                · subst c18
                  have H1 : (delta_Check_p.j2 kj7 false) = some r := by rw [if_pos rfl] at H; exact H
                  clear H
                  have H := H1
                  clear H1
                  have H' := Aside0.mk H
                  clear H
                  have za4 : wc.cell? ⟨zae, 0, none⟩ = some (.bool true) := (blk_cell zaf.out 0).trans rfl
                  have za5 : wc.cell? ⟨zae, 1, none⟩ = some (.int .i64 a0_1) := (blk_cell zaf.out 1).trans rfl
                  have za6 : wc.cell? ⟨zae, 2, none⟩ = some (.int .i64 a0_2) := (blk_cell zaf.out 2).trans rfl
                  have za7 : wc.cell? ⟨zae, 3, none⟩ = some (.string a0_3) := (blk_cell zaf.out 3).trans rfl
                  have za8 := blk_frozen zaf.out 0
                  have za9 := blk_frozen zaf.out 1
                  have zba := blk_frozen zaf.out 2
                  have zbb := blk_frozen zaf.out 3
                  go_wp2
                  go_meet
                  case rel => exact ⟨_, (false), (by first | rfl | (simp; done) | (simp [*]; done) | (simp [M.isEmpty_bne]; done)), H', ⟨by have := HJ1.out; have := HJ7.out; first | omega | exact Nat.le_refl _⟩, ⟨by (with_reducible repeat (first | refine blk_drewN ?_ _ | refine blk_drew ?_ | refine blk_alloc ?_ _)); exact zaf.out⟩, ⟨M.up HB⟩⟩
                · replace c18 := Bool.eq_false_iff.mpr c18
                  subst c18
                  have H1 : (if a0_1 = 0 then (delta_Check_p.j2 kj7 (a0_2 != (a0_3.size : Int))) else (delta_Check_p.j2 kj7 true)) = some r := by rw [if_neg (show ¬ (false = true) by decide)] at H; exact H
                  clear H
                  have H := H1
                  clear H1
                  by_cases c20 : a0_1 = 0
                  · rw [if_pos c20] at H
                    have c20b0 : (a0_1 == 0) = true := beq_iff_eq.mpr c20
                    have c20b1 : (a0_1 != 0) = false := bne_eq_false_iff_eq.mpr c20
                    clear c20
                    (first | rw [c20b0] | (simp only [i64_w, i32_w]; rw [c20b0]) | skip)
                    have H' := Aside0.mk H
                    clear H
                    have zbc : wc.cell? ⟨zae, 0, none⟩ = some (.bool false) := (blk_cell zaf.out 0).trans rfl
                    have zbd : wc.cell? ⟨zae, 1, none⟩ = some (.int .i64 a0_1) := (blk_cell zaf.out 1).trans rfl
                    have zbe : wc.cell? ⟨zae, 2, none⟩ = some (.int .i64 a0_2) := (blk_cell zaf.out 2).trans rfl
                    have zbf : wc.cell? ⟨zae, 3, none⟩ = some (.string a0_3) := (blk_cell zaf.out 3).trans rfl
                    have zbg := blk_frozen zaf.out 0
                    have zbh := blk_frozen zaf.out 1
                    have zbi := blk_frozen zaf.out 2
                    have zbj := blk_frozen zaf.out 3
                    go_wp2
                    go_meet
                    case rel => exact ⟨_, ((a0_2 != (a0_3.size : Int))), (by first | rfl | (simp; done) | (simp [*]; done) | (simp [M.isEmpty_bne]; done)), H', ⟨by have := HJ1.out; have := HJ7.out; first | omega | exact Nat.le_refl _⟩, ⟨by (with_reducible repeat (first | refine blk_drewN ?_ _ | refine blk_drew ?_ | refine blk_alloc ?_ _)); exact zaf.out⟩, ⟨M.up HB⟩⟩
                  · rw [if_neg c20] at H
                    have c20b0 : (a0_1 == 0) = false := beq_eq_false_iff_ne.mpr c20
                    have c20b1 : (a0_1 != 0) = true := bne_iff_ne.mpr c20
                    (first | rw [c20b0] | (simp only [i64_w, i32_w]; rw [c20b0]) | skip)
                    have H' := Aside0.mk H
                    clear H
                    have zbk : wc.cell? ⟨zae, 0, none⟩ = some (.bool false) := (blk_cell zaf.out 0).trans rfl
                    have zbl : wc.cell? ⟨zae, 1, none⟩ = some (.int .i64 a0_1) := (blk_cell zaf.out 1).trans rfl
                    have zbm : wc.cell? ⟨zae, 2, none⟩ = some (.int .i64 a0_2) := (blk_cell zaf.out 2).trans rfl
                    have zbn : wc.cell? ⟨zae, 3, none⟩ = some (.string a0_3) := (blk_cell zaf.out 3).trans rfl
                    have zbo := blk_frozen zaf.out 0
                    have zbp := blk_frozen zaf.out 1
                    have zbq := blk_frozen zaf.out 2
                    have zbr := blk_frozen zaf.out 3
                    go_wp2
                    go_meet
                    case rel => exact ⟨_, (true), (by first | rfl | (simp; done) | (simp [*]; done) | (simp [M.isEmpty_bne]; done)), H', ⟨by have := HJ1.out; have := HJ7.out; first | omega | exact Nat.le_refl _⟩, ⟨by (with_reducible repeat (first | refine blk_drewN ?_ _ | refine blk_drew ?_ | refine blk_alloc ?_ _)); exact zaf.out⟩, ⟨M.up HB⟩⟩
              case rest =>
                clear HC17
                try clear c1
                try clear c2
                try clear p2
                try clear c4
                try clear c4b0
                try clear c7
                try clear c9
                try clear c10
                try clear c10b0
                try clear c12
                try clear c12b0
                try clear c14
                try clear c16
                try clear c18
                try clear c20
                try clear c20b0
                try clear c20b1
                try clear zay
                try clear zaz
                try clear zaA
                try clear zaB
                try clear zaG
                try clear zaH
                try clear zaI
                try clear zaJ
                try clear zaO
                try clear zaP
                try clear zaQ
                try clear zaR
                try clear zaW
                try clear zaX
                try clear zaY
                try clear zaZ
                try clear za4
                try clear za5
                try clear za6
                try clear za7
                try clear zbc
                try clear zbd
                try clear zbe
                try clear zbf
                try clear zbk
                try clear zbl
                try clear zbm
                try clear zbn
                try clear zai
                try clear zaj
                try clear zak
                try clear zal
                try clear zaq
                try clear zar
                try clear zas
                try clear zat
                try clear zaC
                try clear zaD
                try clear zaE
                try clear zaF
                try clear zaK
                try clear zaL
                try clear zaM
                try clear zaN
                try clear zaS
                try clear zaT
                try clear zaU
                try clear zaV
                try clear za0
                try clear za1
                try clear za2
                try clear za3
                try clear za8
                try clear za9
                try clear zba
                try clear zbb
                try clear zbg
                try clear zbh
                try clear zbi
                try clear zbj
                try clear zbo
                try clear zbp
                try clear zbq
                try clear zbr
                try clear zam
                try clear zan
                try clear zao
                try clear zap
                try clear zau
                try clear zav
                try clear zaw
                try clear zax
                try clear p2
                obtain ⟨kq, x30_16, rfl, HA, HJ16, zaf, HB⟩ := hcut
                cases kq with
                | zero => exact absurd HA.out (by simp [delta_Check_p.j2])
                | succ kj16 =>
                  have H := HA.out
                  clear HA
                  simp only [delta_Check_p.j2] at H
                  by_cases c23 : x30_16 = true
                  · subst c23
                    have H1 : (some 2) = some r := by rw [if_pos rfl] at H; exact H
                    clear H
                    have H := H1
                    clear H1
                    obtain rfl := Option.some.inj H
                    go_wp2
                    go_ret
                    exact M.fin (M.up HB)
                  · replace c23 := Bool.eq_false_iff.mpr c23
                    subst c23
                    have H1 : (some 0) = some r := by rw [if_neg (show ¬ (false = true) by decide)] at H; exact H
                    clear H
                    have H := H1
                    clear H1
                    obtain rfl := Option.some.inj H
                    go_wp2
                    go_ret
                    exact M.fin (M.up HB)

-- this session's own plain form
def delta_Check.f (c : Bool) (a n : Int) (o : ByteArray) : Option Int := some (if M.pok c a n o = true then 0 else 2)
theorem delta_Check.nil (s : ByteArray) : (s.toList != ([] : List UInt8)) = !decide (s.size = 0) := by
  rw [M.toList_bs, ← M.bs_length]
  cases M.bs s <;> rfl
theorem delta_Check.ev (c : Bool) (a n : Int) (o : ByteArray) (r : Int) (h : delta_Check.f c a n o = some r) : ∃ k, delta_Check_p.f k c a n o = some r := by
  refine ⟨0 + 1 + 1 + 1, ?_⟩
  rw [← h]
  unfold delta_Check_p.f delta_Check.f
  cases hp : M.pok c a n o with
  | true =>
    have hl := M.pok_len hp
    rw [if_neg (by omega), delta_Check_p.j0, if_neg (by simp; omega)]
    cases c with
    | true =>
      have hc := M.pok_copy hp
      rw [if_pos rfl, if_neg (by omega), if_neg (by omega), delta_Check.nil, decide_eq_true hc.2.2.2.2, delta_Check_p.j1, if_neg (by simp), if_pos rfl, delta_Check_p.j2]
      simp
    | false =>
      have hc := M.pok_own hp
      rw [if_neg (by simp), delta_Check_p.j1, if_neg (by simp), if_neg (by simp), if_pos hc.2.2.1, show (n != (o.size : Int)) = false from by simp [hc.2.2.2], delta_Check_p.j2]
      simp
  | false =>
    rw [if_neg (show ¬ false = true by simp)]
    by_cases h1 : n < 1
    · rw [if_pos h1, delta_Check_p.j0, if_pos rfl]
    · rw [if_neg h1, delta_Check_p.j0]
      by_cases h2 : n > 65536
      · rw [if_pos (decide_eq_true h2)]
      · rw [if_neg (by simp; omega)]
        cases c with
        | true =>
          rw [if_pos rfl]
          by_cases h3 : a < 0
          · rw [if_pos h3, delta_Check_p.j1, if_pos rfl]
          · rw [if_neg h3]
            by_cases h4 : a > 65536
            · rw [if_pos h4, delta_Check_p.j1, if_pos rfl]
            · rw [if_neg h4, delta_Check.nil]
              by_cases h5 : o.size = 0
              · exfalso
                have : M.pok true a n o = true := by unfold M.pok; simp only [if_true, Bool.and_eq_true, decide_eq_true_eq]; omega
                rw [this] at hp; cases hp
              · rw [decide_eq_false h5, delta_Check_p.j1, if_pos (by rfl)]
        | false =>
          rw [if_neg (by simp), delta_Check_p.j1, if_neg (by simp), if_neg (by simp)]
          by_cases h3 : a = 0
          · rw [if_pos h3]
            by_cases h4 : (o.size : Int) = n
            · exfalso
              have : M.pok false a n o = true := by unfold M.pok; simp only [Bool.false_eq_true, if_false, Bool.and_eq_true, decide_eq_true_eq]; omega
              rw [this] at hp; cases hp
            · rw [delta_Check_p.j2, if_pos (by simp; omega)]
          · rw [if_neg h3, delta_Check_p.j2, if_pos rfl]
theorem delta_Check.calls (a0_0 : Bool) (a0_1 : Int) (a0_2 : Int) (a0_3 : ByteArray) (r : Int) (w : World) (h : delta_Check.f a0_0 a0_1 a0_2 a0_3 = some r) :
    Calls Try.prog 14 #[.agg #[.bool a0_0, .int .i64 a0_1, .int .i64 a0_2, .string a0_3]] w fun e w' => e = .returned (.int .i64 r) ∧ Below w.heap.size w w' := by
  obtain ⟨k, hk⟩ := delta_Check.ev _ _ _ _ _ h
  exact delta_Check_p.calls (k := k) (w := w) (h := hk)

/-- A state of type 70 at block g of W; what its slices lead to came in by w0. -/
def IsS70 (w0 W : World) (g : Nat) (f0 : ByteArray) (f1 : Int) (f2 : Int) (f3 : Bool) : Prop := W.heap[g]? = some (.cells #[.string f0, .int .i64 f1, .int .i64 f2, .bool f3] 70 (0, 0)) ∧ w0.heap.size ≤ g
theorem IsS70.grown {w0 W : World} {g : Nat} {f0 : ByteArray} {f1 : Int} {f2 : Int} {f3 : Bool} {W1 : World} {row : Option Nat} (h : IsS70 w0 W g f0 f1 f2 f3) (hw : W.grownBy W1 row) (hne : some g ≠ row) : IsS70 w0 W1 g f0 f1 f2 f3 := by
  obtain ⟨hb, hg⟩ := h
  exact ⟨blk_grown hb hw hne, hg⟩
theorem IsS70.own_neN {w0 W : World} {g : Nat} {f0 : ByteArray} {f1 : Int} {f2 : Int} {f3 : Bool} {α : Type} {d : Kd α} {e : Nat} {base : Nat} {ok : Nat → Prop} {v : Value} {xs : List α} (h : IsS70 w0 W g f0 f1 f2 f3) (ho : Kd.N d e W base ok v xs) (ht : e ≠ 70) : some g ≠ v.ownBlock := by
  obtain ⟨hb, hg⟩ := h
  exact Kd.N_ne ho hb ht
theorem IsS70.fresh {w0 W : World} {g : Nat} {f0 : ByteArray} {f1 : Int} {f2 : Int} {f3 : Bool} (h : IsS70 w0 W g f0 f1 f2 f3) : ∀ k, W.heap.size ≤ k → k ≠ g := by
  obtain ⟨hb, hg⟩ := h
  exact Kd.freshB hb
theorem IsS70.kept {w0 W : World} {g : Nat} {f0 : ByteArray} {f1 : Int} {f2 : Int} {f3 : Bool} {W1 : World} {S : Nat → Prop} (h : IsS70 w0 W g f0 f1 f2 f3) (hk : Kept W W1 S) (hne : ¬ S g) : IsS70 w0 W1 g f0 f1 f2 f3 := by
  obtain ⟨hb, hg⟩ := h
  exact ⟨blk_kept hb hk hne, hg⟩
theorem IsS70.below {w0 W : World} {g : Nat} {f0 : ByteArray} {f1 : Int} {f2 : Int} {f3 : Bool} {W1 : World} (h : IsS70 w0 W g f0 f1 f2 f3) (hw : Below W.heap.size W W1) : IsS70 w0 W1 g f0 f1 f2 f3 := h.grown (grown_of_below hw none) (by simp)
theorem IsS70.alloc {w0 W : World} {g : Nat} {f0 : ByteArray} {f1 : Int} {f2 : Int} {f3 : Bool} (h : IsS70 w0 W g f0 f1 f2 f3) (o : Obj) : IsS70 w0 (W.alloc o) g f0 f1 f2 f3 := h.below (below_alloc (Below.refl _ _) o)
theorem IsS70.drewN {w0 W : World} {g : Nat} {f0 : ByteArray} {f1 : Int} {f2 : Int} {f3 : Bool} (h : IsS70 w0 W g f0 f1 f2 f3) (m : Nat) : IsS70 w0 (W.drewN m) g f0 f1 f2 f3 := h
theorem IsS70.drew {w0 W : World} {g : Nat} {f0 : ByteArray} {f1 : Int} {f2 : Int} {f3 : Bool} (h : IsS70 w0 W g f0 f1 f2 f3) : IsS70 w0 W.drew g f0 f1 f2 f3 := h
theorem IsS70.at_ {w0 W : World} {g : Nat} {f0 : ByteArray} {f1 : Int} {f2 : Int} {f3 : Bool} {w' : World} {m : Nat} (hq : W.drewN m = w') (h : IsS70 w0 W g f0 f1 f2 f3) : IsS70 w0 w' g f0 f1 f2 f3 := by subst hq; exact IsS70.drewN h m
theorem IsS70.apart {w0 W : World} {g : Nat} {f0 : ByteArray} {f1 : Int} {f2 : Int} {f3 : Bool} {α : Type} {d : Kd α} {e : Nat} {base : Nat} {ok : Nat → Prop} {v : Value} {xs : List α} (h : IsS70 w0 W g f0 f1 f2 f3) (ho : d.R e W base ok v xs) (ht : ∀ q, q ∈ e :: d.E → q ≠ 70) : d.R e W base (fun k => ok k ∧ k ≠ g) v xs := by
  obtain ⟨hb, hg⟩ := h
  exact Kd.R_types ho hb ht
theorem IsS70.own_ne {w0 W : World} {g : Nat} {f0 : ByteArray} {f1 : Int} {f2 : Int} {f3 : Bool} {α : Type} {d : Kd α} {e : Nat} {base : Nat} {ok : Nat → Prop} {v : Value} {xs : List α} (h : IsS70 w0 W g f0 f1 f2 f3) (ho : d.R e W base ok v xs) (ht : e ≠ 70) : some g ≠ v.ownBlock := by
  obtain ⟨hb, hg⟩ := h
  exact Kd.R_ne ho hb ht
theorem IsS70.apartQ {w0 W : World} {g : Nat} {f0 : ByteArray} {f1 : Int} {f2 : Int} {f3 : Bool} {α : Type} {d : Kd α} {e : Nat} {base : Nat} {ok : Nat → Prop} {v : Value} {xs : List α} (h : IsS70 w0 W g f0 f1 f2 f3) (ho : d.Q e W base ok v xs) (ht : ∀ q, q ∈ e :: d.E → q ≠ 70) : d.Q e W base (fun k => ok k ∧ k ≠ g) v xs := by
  obtain ⟨hb, hg⟩ := h
  exact Kd.Q_types ho hb ht
theorem IsS70.own_neQ {w0 W : World} {g : Nat} {f0 : ByteArray} {f1 : Int} {f2 : Int} {f3 : Bool} {α : Type} {d : Kd α} {e : Nat} {base : Nat} {ok : Nat → Prop} {v : Value} {xs : List α} (h : IsS70 w0 W g f0 f1 f2 f3) (ho : d.Q e W base ok v xs) (ht : e ≠ 70) : some g ≠ v.ownBlock := by
  obtain ⟨hb, hg⟩ := h
  exact Kd.Q_ne ho hb ht
theorem IsS70.apartS {w0 W : World} {g : Nat} {f0 : ByteArray} {f1 : Int} {f2 : Int} {f3 : Bool} {α : Type} {d : Kd α} {e : Nat} {base : Nat} {ok : Nat → Prop} {v : Value} {xs : List α} (h : IsS70 w0 W g f0 f1 f2 f3) (ho : d.S e W base ok v xs) (ht : ∀ q, q ∈ e :: d.E → q ≠ 70) : d.S e W base (fun k => ok k ∧ k ≠ g) v xs := by
  obtain ⟨hb, hg⟩ := h
  exact Kd.S_types ho hb ht
theorem IsS70.own_neS {w0 W : World} {g : Nat} {f0 : ByteArray} {f1 : Int} {f2 : Int} {f3 : Bool} {α : Type} {d : Kd α} {e : Nat} {base : Nat} {ok : Nat → Prop} {v : Value} {xs : List α} (h : IsS70 w0 W g f0 f1 f2 f3) (ho : d.S e W base ok v xs) (ht : e ≠ 70) : some g ≠ v.ownBlock := by
  obtain ⟨hb, hg⟩ := h
  exact Kd.S_ne ho hb ht
theorem IsS70.lt {w0 W : World} {g : Nat} {f0 : ByteArray} {f1 : Int} {f2 : Int} {f3 : Bool} (h : IsS70 w0 W g f0 f1 f2 f3) : g < W.heap.size := by
  obtain ⟨hb, hg⟩ := h
  exact blk_lt hb
theorem IsS70.ge {w0 W : World} {g : Nat} {f0 : ByteArray} {f1 : Int} {f2 : Int} {f3 : Bool} (h : IsS70 w0 W g f0 f1 f2 f3) : w0.heap.size ≤ g := by
  obtain ⟨hb, hg⟩ := h
  exact hg
theorem IsS70.ne_blk {w0 W : World} {g : Nat} {f0 : ByteArray} {f1 : Int} {f2 : Int} {f3 : Bool} {a : Nat} {cs : Array Value} {t : TypeId} {fr : Nat × Nat} (h : IsS70 w0 W g f0 f1 f2 f3) (hb2 : W.heap[a]? = some (.cells cs t fr)) (ht : t ≠ 70) : g ≠ a := by
  obtain ⟨hb, hg⟩ := h
  rintro rfl
  rw [hb] at hb2
  injection hb2 with hb2
  injection hb2 with _ ht2
  exact ht ht2.symm
theorem IsS70.far {w0 W : World} {g : Nat} {f0 : ByteArray} {f1 : Int} {f2 : Int} {f3 : Bool} {p : Addr} (h : IsS70 w0 W g f0 f1 f2 f3) (hne : g ≠ p.block) (u : Value) : IsS70 w0 (W.setCell p u) g f0 f1 f2 f3 := by
  obtain ⟨hb, hg⟩ := h
  exact ⟨blk_far hb hne u, hg⟩
theorem cellS70_0 {W : World} {g : Nat} {f0 : ByteArray} {f1 : Int} {f2 : Int} {f3 : Bool} (h : W.heap[g]? = some (.cells #[.string f0, .int .i64 f1, .int .i64 f2, .bool f3] 70 (0, 0))) : W.cell? ⟨g, 0, none⟩ = some (.string f0) := (blk_cell h 0).trans rfl
theorem IsS70.set_0 {w0 W : World} {g : Nat} {f0 : ByteArray} {f1 : Int} {f2 : Int} {f3 : Bool} (h : IsS70 w0 W g f0 f1 f2 f3) (x : ByteArray) : IsS70 w0 (W.setCell ⟨g, 0, none⟩ (.string x)) g x f1 f2 f3 := by
  obtain ⟨hb, hg⟩ := h
  exact ⟨by simpa using blk_set hb 0 (.string x), hg⟩
theorem cellS70_1 {W : World} {g : Nat} {f0 : ByteArray} {f1 : Int} {f2 : Int} {f3 : Bool} (h : W.heap[g]? = some (.cells #[.string f0, .int .i64 f1, .int .i64 f2, .bool f3] 70 (0, 0))) : W.cell? ⟨g, 1, none⟩ = some (.int .i64 f1) := (blk_cell h 1).trans rfl
theorem IsS70.set_1 {w0 W : World} {g : Nat} {f0 : ByteArray} {f1 : Int} {f2 : Int} {f3 : Bool} (h : IsS70 w0 W g f0 f1 f2 f3) (x : Int) : IsS70 w0 (W.setCell ⟨g, 1, none⟩ (.int .i64 x)) g f0 x f2 f3 := by
  obtain ⟨hb, hg⟩ := h
  exact ⟨by simpa using blk_set hb 1 (.int .i64 x), hg⟩
theorem cellS70_2 {W : World} {g : Nat} {f0 : ByteArray} {f1 : Int} {f2 : Int} {f3 : Bool} (h : W.heap[g]? = some (.cells #[.string f0, .int .i64 f1, .int .i64 f2, .bool f3] 70 (0, 0))) : W.cell? ⟨g, 2, none⟩ = some (.int .i64 f2) := (blk_cell h 2).trans rfl
theorem IsS70.set_2 {w0 W : World} {g : Nat} {f0 : ByteArray} {f1 : Int} {f2 : Int} {f3 : Bool} (h : IsS70 w0 W g f0 f1 f2 f3) (x : Int) : IsS70 w0 (W.setCell ⟨g, 2, none⟩ (.int .i64 x)) g f0 f1 x f3 := by
  obtain ⟨hb, hg⟩ := h
  exact ⟨by simpa using blk_set hb 2 (.int .i64 x), hg⟩
theorem cellS70_3 {W : World} {g : Nat} {f0 : ByteArray} {f1 : Int} {f2 : Int} {f3 : Bool} (h : W.heap[g]? = some (.cells #[.string f0, .int .i64 f1, .int .i64 f2, .bool f3] 70 (0, 0))) : W.cell? ⟨g, 3, none⟩ = some (.bool f3) := (blk_cell h 3).trans rfl
theorem IsS70.set_3 {w0 W : World} {g : Nat} {f0 : ByteArray} {f1 : Int} {f2 : Int} {f3 : Bool} (h : IsS70 w0 W g f0 f1 f2 f3) (x : Bool) : IsS70 w0 (W.setCell ⟨g, 3, none⟩ (.bool x)) g f0 f1 f2 x := by
  obtain ⟨hb, hg⟩ := h
  exact ⟨by simpa using blk_set hb 3 (.bool x), hg⟩
theorem IsS70.new (w0 W : World) (f0 : ByteArray) (f1 : Int) (f2 : Int) (f3 : Bool) (hB : Below w0.heap.size w0 W) : IsS70 w0 (W.alloc (.cells #[.string f0, .int .i64 f1, .int .i64 f2, .bool f3] 70)) W.heap.size f0 f1 f2 f3 := ⟨by simpa using heap_alloc_new W _, hB.size⟩

/-! ### scan_New: function 29 -/
def scan_New.f (a0 : ByteArray) : Option (ByteArray × Int × Int × Bool) := some (a0, 0, 0, true)
set_option maxHeartbeats 8000000 in
set_option maxRecDepth 100000 in
theorem scan_New.calls (a0 : ByteArray) (r1 : ByteArray) (r2 : Int) (r3 : Int) (r4 : Bool) (w0 w : World) (hB : Below w0.heap.size w0 w) (h : scan_New.f a0 = some (r1, r2, r3, r4)) :
    Calls Try.prog 29 #[.string a0] w fun e w' => ∃ g_ : Nat, e = .returned (.pointer (some ⟨g_, 0, none⟩)) ∧ IsS70 w0 w' g_ r1 r2 r3 r4 ∧ Below w0.heap.size w0 w' ∧ Below w.heap.size w w' := by
  have hu70 := Try.underlying70
  have HBW := Aside0.mk (Below.refl w.heap.size w)
  have HW0 := Aside0.mk hB.size
  have HB := Aside0.mk hB
  clear hB
  have H : (some (a0, 0, 0, true)) = some (r1, r2, r3, r4) := h
  clear h
  simp only [Option.some.injEq, Prod.mk.injEq] at H
  obtain ⟨rfl, rfl, rfl, rfl⟩ := H
  go_enter Try.func29, Try.ntmps29
  go_wp2_with (first | ((with_reducible refine gate_dst (N := 5) rfl ?_); refine box_event ?hg (N := 5) ?hd (cs := #[.string a0, .int .i64 0, .int .i64 0, .bool true]) (t := 70) ?hr ?_; (case hd => rfl); (case hg => rfl); (case hr => first | (go_simp; done) | (go_simp; rfl)); intro zbs hg w2 hbox hb; have n0_ := Aside0.mk (below_step HBW.out hb); have n1_ := M.upS HB hb; have n2_ := Aside0.mk (hbox); have n3_ := Aside0.mk ((by rw [hg]; exact (below_size (by repeat (first | (with_reducible first | exact HBW.out | apply below_alloc | apply pw_below_drewN | apply below_drew1) | exact HBW.out))) : w.heap.size ≤ zbs)); have n4_ := Aside0.mk ((Nat.le_trans HW0.out (by rw [hg]; exact (below_size (by repeat (first | (with_reducible first | exact HBW.out | apply below_alloc | apply pw_below_drewN | apply below_drew1) | exact HBW.out))) : w.heap.size ≤ zbs) : w0.heap.size ≤ zbs)); clear HBW HB; have HBW := n0_; have HB := n1_; have zbt := n2_; have zbu := n3_; have zbv := n4_; clear n0_ n1_ n2_ n3_ n4_; clear hb hbox hg))
  go_ret
  exact ⟨_, rfl, (show IsS70 w0 _ zbs a0 0 0 true from ⟨by (with_reducible repeat (first | refine blk_drewN ?_ _ | refine blk_drew ?_ | refine blk_alloc ?_ _)); exact zbt.out, zbv.out⟩), by repeat (first | (with_reducible first | exact HB.out | apply below_alloc | apply pw_below_drewN | apply below_drew1 | refine below_set ?_ zbv.out) | exact HB.out), by repeat (first | (with_reducible first | exact HBW.out | apply below_alloc | apply pw_below_drewN | apply below_drew1 | refine below_set ?_ zbu.out) | exact HBW.out)⟩

/-! ### scan_Scan_Err: function 30 -/
def scan_Scan_Err.f (s0_0 : ByteArray) (s0_1 : Int) (s0_2 : Int) (s0_3 : Bool) : Option (Int × ByteArray × Int × Int × Bool) := if s0_3 = true then (some (s0_2, s0_0, s0_1, s0_2, s0_3)) else (some (1, s0_0, s0_1, s0_2, s0_3))
set_option maxHeartbeats 8000000 in
set_option maxRecDepth 100000 in
theorem scan_Scan_Err.calls (g : Nat) (s0_0 : ByteArray) (s0_1 : Int) (s0_2 : Int) (s0_3 : Bool) (r1 : Int) (r2 : ByteArray) (r3 : Int) (r4 : Int) (r5 : Bool) (w0 w : World) (hI : IsS70 w0 w g s0_0 s0_1 s0_2 s0_3) (hB : Below w0.heap.size w0 w) (h : scan_Scan_Err.f s0_0 s0_1 s0_2 s0_3 = some (r1, r2, r3, r4, r5)) :
    Calls Try.prog 30 #[.pointer (some ⟨g, 0, none⟩)] w fun e w' => e = .returned (.int .i64 r1) ∧ IsS70 w0 w' g r2 r3 r4 r5 ∧ Below w0.heap.size w0 w' ∧ KeepBut w w' g none := by
  have HI0 := Aside0.mk hI
  have HK := Aside0.mk (KeepBut.refl w g none)
  have HL := Aside0.mk hB.size
  clear hI
  have HW0 := Aside0.mk hB.size
  have HB := Aside0.mk hB
  clear hB
  have H : (if s0_3 = true then (some (s0_2, s0_0, s0_1, s0_2, s0_3)) else (some (1, s0_0, s0_1, s0_2, s0_3))) = some (r1, r2, r3, r4, r5) := h
  clear h
  by_cases c2 : s0_3 = true
  · subst c2
    have H1 : (some (s0_2, s0_0, s0_1, s0_2, true)) = some (r1, r2, r3, r4, r5) := by rw [if_pos rfl] at H; exact H
    clear H
    have H := H1
    clear H1
    simp only [Option.some.injEq, Prod.mk.injEq] at H
    obtain ⟨rfl, rfl, rfl, rfl, rfl⟩ := H
    obtain ⟨HGz3, hgz3⟩ := HI0.out
    have zbw := cellS70_0 HGz3
    have zbx := cellS70_1 HGz3
    have zby := cellS70_2 HGz3
    have zbz := cellS70_3 HGz3
    have zbA := blk_frozen HGz3 0
    have zbB := blk_frozen HGz3 1
    have zbC := blk_frozen HGz3 2
    have zbD := blk_frozen HGz3 3
    clear HGz3 hgz3
    go_enter Try.func30, Try.ntmps30
    go_wp2
    go_ret
    exact ⟨by first | rfl | (simp [errW_none, errW_some] <;> rfl) | (simp [*, errW_none, errW_some] <;> rfl), by repeat (first | (with_reducible first | exact HI0.out | apply IsS70.alloc | apply IsS70.drewN | apply IsS70.drew | apply IsS70.set_0 | apply IsS70.set_1 | apply IsS70.set_2 | apply IsS70.set_3) | exact HI0.out), by repeat (first | (with_reducible first | exact HB.out | apply below_alloc | apply pw_below_drewN | apply below_drew1 | refine below_set ?_ (IsS70.ge HI0.out)) | exact HB.out), by repeat (first | (with_reducible first | exact HK.out | apply KeepBut.set_ | apply keep_drewN | apply keep_drew | apply keep_alloc) | exact HK.out)⟩
  · replace c2 := Bool.eq_false_iff.mpr c2
    subst c2
    have H1 : (some (1, s0_0, s0_1, s0_2, false)) = some (r1, r2, r3, r4, r5) := by rw [if_neg (show ¬ (false = true) by decide)] at H; exact H
    clear H
    have H := H1
    clear H1
    simp only [Option.some.injEq, Prod.mk.injEq] at H
    obtain ⟨rfl, rfl, rfl, rfl, rfl⟩ := H
    obtain ⟨HGz4, hgz4⟩ := HI0.out
    have zbE := cellS70_0 HGz4
    have zbF := cellS70_1 HGz4
    have zbG := cellS70_2 HGz4
    have zbH := cellS70_3 HGz4
    have zbI := blk_frozen HGz4 0
    have zbJ := blk_frozen HGz4 1
    have zbK := blk_frozen HGz4 2
    have zbL := blk_frozen HGz4 3
    clear HGz4 hgz4
    go_enter Try.func30, Try.ntmps30
    go_wp2
    go_ret
    exact ⟨by first | rfl | (simp [errW_none, errW_some] <;> rfl) | (simp [*, errW_none, errW_some] <;> rfl), by repeat (first | (with_reducible first | exact HI0.out | apply IsS70.alloc | apply IsS70.drewN | apply IsS70.drew | apply IsS70.set_0 | apply IsS70.set_1 | apply IsS70.set_2 | apply IsS70.set_3) | exact HI0.out), by repeat (first | (with_reducible first | exact HB.out | apply below_alloc | apply pw_below_drewN | apply below_drew1 | refine below_set ?_ (IsS70.ge HI0.out)) | exact HB.out), by repeat (first | (with_reducible first | exact HK.out | apply KeepBut.set_ | apply keep_drewN | apply keep_drew | apply keep_alloc) | exact HK.out)⟩

/-! ### scan_Scan_At: function 31 -/
def scan_Scan_At.f (s0_0 : ByteArray) (s0_1 : Int) (s0_2 : Int) (s0_3 : Bool) : Option (Int × ByteArray × Int × Int × Bool) := some (s0_1, s0_0, s0_1, s0_2, s0_3)
set_option maxHeartbeats 8000000 in
set_option maxRecDepth 100000 in
theorem scan_Scan_At.calls (g : Nat) (s0_0 : ByteArray) (s0_1 : Int) (s0_2 : Int) (s0_3 : Bool) (r1 : Int) (r2 : ByteArray) (r3 : Int) (r4 : Int) (r5 : Bool) (w0 w : World) (hI : IsS70 w0 w g s0_0 s0_1 s0_2 s0_3) (hB : Below w0.heap.size w0 w) (h : scan_Scan_At.f s0_0 s0_1 s0_2 s0_3 = some (r1, r2, r3, r4, r5)) :
    Calls Try.prog 31 #[.pointer (some ⟨g, 0, none⟩)] w fun e w' => e = .returned (.int .i64 r1) ∧ IsS70 w0 w' g r2 r3 r4 r5 ∧ Below w0.heap.size w0 w' ∧ KeepBut w w' g none := by
  have HI0 := Aside0.mk hI
  have HK := Aside0.mk (KeepBut.refl w g none)
  have HL := Aside0.mk hB.size
  clear hI
  have HW0 := Aside0.mk hB.size
  have HB := Aside0.mk hB
  clear hB
  have H : (some (s0_1, s0_0, s0_1, s0_2, s0_3)) = some (r1, r2, r3, r4, r5) := h
  clear h
  simp only [Option.some.injEq, Prod.mk.injEq] at H
  obtain ⟨rfl, rfl, rfl, rfl, rfl⟩ := H
  obtain ⟨HGz2, hgz2⟩ := HI0.out
  have zbM := cellS70_0 HGz2
  have zbN := cellS70_1 HGz2
  have zbO := cellS70_2 HGz2
  have zbP := cellS70_3 HGz2
  have zbQ := blk_frozen HGz2 0
  have zbR := blk_frozen HGz2 1
  have zbS := blk_frozen HGz2 2
  have zbT := blk_frozen HGz2 3
  clear HGz2 hgz2
  go_enter Try.func31, Try.ntmps31
  go_wp2
  go_ret
  exact ⟨by first | rfl | (simp [errW_none, errW_some] <;> rfl) | (simp [*, errW_none, errW_some] <;> rfl), by repeat (first | (with_reducible first | exact HI0.out | apply IsS70.alloc | apply IsS70.drewN | apply IsS70.drew | apply IsS70.set_0 | apply IsS70.set_1 | apply IsS70.set_2 | apply IsS70.set_3) | exact HI0.out), by repeat (first | (with_reducible first | exact HB.out | apply below_alloc | apply pw_below_drewN | apply below_drew1 | refine below_set ?_ (IsS70.ge HI0.out)) | exact HB.out), by repeat (first | (with_reducible first | exact HK.out | apply KeepBut.set_ | apply keep_drewN | apply keep_drew | apply keep_alloc) | exact HK.out)⟩

end Go.Proofs.Ytadpicphohobbaa.EDeltaTakes
