-- Written by this session's own program (wip/tools/ext.py) for this claim; Lean checks it.
import Derived.Test.YtadpicphohobbaaEDeltaBackx0
namespace Go.Proofs.Ytadpicphohobbaa.EDeltaBack
open Go.RowKit Go.Proofs.YtadpicphohobbaaW.PrintWords Go.Proofs.YtadpicphohobbaaW.PrintLast Go.Proofs.YtadpicphohobbaaW.PrintMore
attribute [local go_sem] M.run_leq M.run_gtr M.run_geq max2_int min2_int max_two min_two max_three min_three max_four min_four   -- for this text's walks alone
set_option linter.unusedVariables false
set_option linter.unusedSimpArgs false

/-! ### delta_Check_p: function 14 -/
mutual
def delta_Check_p.j0 : Nat → Bool → Bool → Int → Int → ByteArray → Option (Int)
  | 0, _, _, _, _, _ => none
  | k + 1, x3, zaa, zab, zac, zad => if x3 = true then (some 2) else (if zaa = true then (if zab < 0 then (delta_Check_p.j1 k true zaa zab zac zad) else (if zab > 65536 then (delta_Check_p.j1 k true zaa zab zac zad) else (delta_Check_p.j1 k (zad.toList != ([] : List UInt8)) zaa zab zac zad))) else (delta_Check_p.j1 k false zaa zab zac zad))
def delta_Check_p.j1 : Nat → Bool → Bool → Int → Int → ByteArray → Option (Int)
  | 0, _, _, _, _, _ => none
  | k + 1, x12, zaa, zab, zac, zad => if x12 = true then (some 2) else (if zaa = true then (delta_Check_p.j2 k false) else (if zab = 0 then (delta_Check_p.j2 k (zac != (zad.size : Int))) else (delta_Check_p.j2 k true)))
def delta_Check_p.j2 : Nat → Bool → Option (Int)
  | 0, _ => none
  | k + 1, x30 => if x30 = true then (some 2) else (some 0)
end
def delta_Check_p.f (k : Nat) (a0_0 : Bool) (a0_1 : Int) (a0_2 : Int) (a0_3 : ByteArray) : Option (Int) := if a0_2 < 1 then (delta_Check_p.j0 k true a0_0 a0_1 a0_2 a0_3) else (delta_Check_p.j0 k (decide (a0_2 > 65536)) a0_0 a0_1 a0_2 a0_3)
theorem delta_Check_p.mono_l : ∀ k, (∀ y0 y1 y2 y3 y4, LeO (delta_Check_p.j0 k y0 y1 y2 y3 y4) (delta_Check_p.j0 (k + 1) y0 y1 y2 y3 y4)) ∧ (∀ y0 y1 y2 y3 y4, LeO (delta_Check_p.j1 k y0 y1 y2 y3 y4) (delta_Check_p.j1 (k + 1) y0 y1 y2 y3 y4)) ∧ (∀ y0, LeO (delta_Check_p.j2 k y0) (delta_Check_p.j2 (k + 1) y0))
  | 0 => ⟨fun _ _ _ _ _ r h => by simp [delta_Check_p.j0] at h, fun _ _ _ _ _ r h => by simp [delta_Check_p.j1] at h, fun _ r h => by simp [delta_Check_p.j2] at h⟩
  | k + 1 => by
    obtain ⟨ih0, ih1, ih2⟩ := delta_Check_p.mono_l k
    refine ⟨?_, ?_, ?_⟩
    · intro y0 y1 y2 y3 y4
      unfold delta_Check_p.j0
      repeat' first
      | (with_reducible exact ih0 _ _ _ _ _)
      | (with_reducible exact ih1 _ _ _ _ _)
      | (with_reducible exact ih2 _)
      | (with_reducible exact LeO.refl _)
      | (with_reducible exact LeO.none _)
      | (with_reducible refine LeO.ite ?_ ?_)
      | (with_reducible refine LeO.bind ?_ (fun _ => ?_))
      | exact ih0 _ _ _ _ _
      | exact ih1 _ _ _ _ _
      | exact ih2 _
      | exact LeO.none _
      | refine LeO.ite ?_ ?_
      | refine LeO.bind ?_ (fun _ => ?_)
    · intro y0 y1 y2 y3 y4
      unfold delta_Check_p.j1
      repeat' first
      | (with_reducible exact ih0 _ _ _ _ _)
      | (with_reducible exact ih1 _ _ _ _ _)
      | (with_reducible exact ih2 _)
      | (with_reducible exact LeO.refl _)
      | (with_reducible exact LeO.none _)
      | (with_reducible refine LeO.ite ?_ ?_)
      | (with_reducible refine LeO.bind ?_ (fun _ => ?_))
      | exact ih0 _ _ _ _ _
      | exact ih1 _ _ _ _ _
      | exact ih2 _
      | exact LeO.none _
      | refine LeO.ite ?_ ?_
      | refine LeO.bind ?_ (fun _ => ?_)
    · intro y0
      unfold delta_Check_p.j2
      repeat' first
      | (with_reducible exact ih0 _ _ _ _ _)
      | (with_reducible exact ih1 _ _ _ _ _)
      | (with_reducible exact ih2 _)
      | (with_reducible exact LeO.refl _)
      | (with_reducible exact LeO.none _)
      | (with_reducible refine LeO.ite ?_ ?_)
      | (with_reducible refine LeO.bind ?_ (fun _ => ?_))
      | exact ih0 _ _ _ _ _
      | exact ih1 _ _ _ _ _
      | exact ih2 _
      | exact LeO.none _
      | refine LeO.ite ?_ ?_
      | refine LeO.bind ?_ (fun _ => ?_)
theorem delta_Check_p.mono : ∀ a0 a1 a2 a3 k, LeO (delta_Check_p.f k a0 a1 a2 a3) (delta_Check_p.f (k + 1) a0 a1 a2 a3) := by
  intro a0 a1 a2 a3 k
  obtain ⟨ih0, ih1, ih2⟩ := delta_Check_p.mono_l k
  unfold delta_Check_p.f
  repeat' first
      | (with_reducible exact ih0 _ _ _ _ _)
      | (with_reducible exact ih1 _ _ _ _ _)
      | (with_reducible exact ih2 _)
      | (with_reducible exact LeO.refl _)
      | (with_reducible exact LeO.none _)
      | (with_reducible refine LeO.ite ?_ ?_)
      | (with_reducible refine LeO.bind ?_ (fun _ => ?_))
      | exact ih0 _ _ _ _ _
      | exact ih1 _ _ _ _ _
      | exact ih2 _
      | exact LeO.none _
      | refine LeO.ite ?_ ?_
      | refine LeO.bind ?_ (fun _ => ?_)
set_option maxHeartbeats 8000000 in
set_option maxRecDepth 100000 in
theorem delta_Check_p.calls (k : Nat) (a0_0 : Bool) (a0_1 : Int) (a0_2 : Int) (a0_3 : ByteArray) (r : Int) (w : World) (h : delta_Check_p.f k a0_0 a0_1 a0_2 a0_3 = some r) :
    Calls Try.prog 14 #[.agg #[.bool a0_0, .int .i64 a0_1, .int .i64 a0_2, .string a0_3]] w fun e w' => e = .returned (.int .i64 r) ∧ Below w.heap.size w w' := by
  have hu34 := Try.underlying34
  have HB := Aside0.mk (Below.refl w.heap.size w)
  have H : (if a0_2 < 1 then (delta_Check_p.j0 k true a0_0 a0_1 a0_2 a0_3) else (delta_Check_p.j0 k (decide (a0_2 > 65536)) a0_0 a0_1 a0_2 a0_3)) = some r := h
  clear h
  have HC2 := Aside0.mk H
  clear H
  go_enter Try.func14, Try.ntmps14
  go_upto_region 1 with (first | ((with_reducible refine gate_dst (N := 1) rfl ?_); (try (refine gate_guard (by rfl) ?_; dsimp only)); refine box_event ?hg (N := 1) ?hd (cs := #[.bool a0_0, .int .i64 a0_1, .int .i64 a0_2, .string a0_3]) (t := 34) ?hr ?_; (case hd => rfl); (case hg => rfl); (case hr => first | (go_simp; done) | (go_simp; rfl)); intro zae hg w3 hbox hb; have n0_ := M.upS HB hb; have n1_ := Aside0.mk (hbox); have n2_ := M.upG HB hg; have n3_ := M.upG HB hg; clear HB; have HB := n0_; have zaf := n1_; have zag := n2_; have zah := n3_; clear n0_ n1_ n2_ n3_; clear hb hbox hg))
  (try simp only [Act.put, List.setIfInBounds_toArray, List.set_cons_zero, List.set_cons_succ])
  go_cut [3] (fun v3 wc => ∃ (kq : Nat) (x3_1 : Bool), v3 = .bool x3_1 ∧ Aside0 (delta_Check_p.j0 kq x3_1 a0_0 a0_1 a0_2 a0_3 = some r) ∧ Aside0 (kq ≤ k) ∧ Aside0 (wc.heap[zae]? = some (.cells #[.bool a0_0, .int .i64 a0_1, .int .i64 a0_2, .string a0_3] 34 (0, 0))) ∧ Aside0 (Below w.heap.size w wc))
  case first =>
    have H := HC2.out
    clear HC2
    by_cases c4 : a0_2 < 1
    · rw [if_pos c4] at H
      have c4b0 : decide (a0_2 < 1) = true := decide_eq_true c4
      clear c4
      (first | rw [c4b0] | (simp only [i64_w, i32_w]; rw [c4b0]) | skip)
      have H' := Aside0.mk H
      clear H
      have zai : w3.cell? ⟨zae, 0, none⟩ = some (.bool a0_0) := (blk_cell zaf.out 0).trans rfl
      have zaj : w3.cell? ⟨zae, 1, none⟩ = some (.int .i64 a0_1) := (blk_cell zaf.out 1).trans rfl
      have zak : w3.cell? ⟨zae, 2, none⟩ = some (.int .i64 a0_2) := (blk_cell zaf.out 2).trans rfl
      have zal : w3.cell? ⟨zae, 3, none⟩ = some (.string a0_3) := (blk_cell zaf.out 3).trans rfl
      have zam := blk_frozen zaf.out 0
      have zan := blk_frozen zaf.out 1
      have zao := blk_frozen zaf.out 2
      have zap := blk_frozen zaf.out 3
      go_wp2
      go_meet
      case rel => exact ⟨_, (true), (by first | rfl | (simp; done) | (simp [*]; done) | (simp [M.isEmpty_bne]; done)), H', ⟨by first | omega | exact Nat.le_refl _⟩, ⟨by (with_reducible repeat (first | refine blk_drewN ?_ _ | refine blk_drew ?_ | refine blk_alloc ?_ _)); exact zaf.out⟩, ⟨M.up HB⟩⟩
    · rw [if_neg c4] at H
      have c4b0 : decide (a0_2 < 1) = false := decide_eq_false c4
      clear c4
      (first | rw [c4b0] | (simp only [i64_w, i32_w]; rw [c4b0]) | skip)
      have H' := Aside0.mk H
      clear H
      have zaq : w3.cell? ⟨zae, 0, none⟩ = some (.bool a0_0) := (blk_cell zaf.out 0).trans rfl
      have zar : w3.cell? ⟨zae, 1, none⟩ = some (.int .i64 a0_1) := (blk_cell zaf.out 1).trans rfl
      have zas : w3.cell? ⟨zae, 2, none⟩ = some (.int .i64 a0_2) := (blk_cell zaf.out 2).trans rfl
      have zat : w3.cell? ⟨zae, 3, none⟩ = some (.string a0_3) := (blk_cell zaf.out 3).trans rfl
      have zau := blk_frozen zaf.out 0
      have zav := blk_frozen zaf.out 1
      have zaw := blk_frozen zaf.out 2
      have zax := blk_frozen zaf.out 3
      go_wp2
      go_meet
      case rel => exact ⟨_, (decide (a0_2 > 65536)), (by first | rfl | (simp; done) | (simp [*]; done) | (simp [M.isEmpty_bne]; done)), H', ⟨by first | omega | exact Nat.le_refl _⟩, ⟨by (with_reducible repeat (first | refine blk_drewN ?_ _ | refine blk_drew ?_ | refine blk_alloc ?_ _)); exact zaf.out⟩, ⟨M.up HB⟩⟩
  case rest =>
    clear HC2
    try clear c1
    try clear p2
    try clear c4
    try clear c4b0
    try clear zai
    try clear zaj
    try clear zak
    try clear zal
    try clear zaq
    try clear zar
    try clear zas
    try clear zat
    try clear zam
    try clear zan
    try clear zao
    try clear zap
    try clear zau
    try clear zav
    try clear zaw
    try clear zax
    obtain ⟨kq, x3_1, rfl, HA, HJ1, zaf, HB⟩ := hcut
    cases kq with
    | zero => exact absurd HA.out (by simp [delta_Check_p.j0])
    | succ kj1 =>
      have H := HA.out
      clear HA
      simp only [delta_Check_p.j0] at H
      by_cases c7 : x3_1 = true
      · subst c7
        have H1 : (some 2) = some r := by rw [if_pos rfl] at H; exact H
        clear H
        have H := H1
        clear H1
        obtain rfl := Option.some.inj H
        go_wp2
        go_ret
        exact M.fin (M.up HB)
      · replace c7 := Bool.eq_false_iff.mpr c7
        subst c7
        have H1 : (if a0_0 = true then (if a0_1 < 0 then (delta_Check_p.j1 kj1 true a0_0 a0_1 a0_2 a0_3) else (if a0_1 > 65536 then (delta_Check_p.j1 kj1 true a0_0 a0_1 a0_2 a0_3) else (delta_Check_p.j1 kj1 (a0_3.toList != ([] : List UInt8)) a0_0 a0_1 a0_2 a0_3))) else (delta_Check_p.j1 kj1 false a0_0 a0_1 a0_2 a0_3)) = some r := by rw [if_neg (show ¬ (false = true) by decide)] at H; exact H
        clear H
        have H := H1
        clear H1
        have HC8 := Aside0.mk H
        clear H
        go_upto_region 3 with (fail)
        go_cut [12] (fun v12 wc => ∃ (kq : Nat) (x12_7 : Bool), v12 = .bool x12_7 ∧ Aside0 (delta_Check_p.j1 kq x12_7 a0_0 a0_1 a0_2 a0_3 = some r) ∧ Aside0 (kq ≤ kj1) ∧ Aside0 (wc.heap[zae]? = some (.cells #[.bool a0_0, .int .i64 a0_1, .int .i64 a0_2, .string a0_3] 34 (0, 0))) ∧ Aside0 (Below w.heap.size w wc))
        case first =>
          have H := HC8.out
          clear HC8
          by_cases c9 : a0_0 = true
          · subst c9
            have H1 : (if a0_1 < 0 then (delta_Check_p.j1 kj1 true true a0_1 a0_2 a0_3) else (if a0_1 > 65536 then (delta_Check_p.j1 kj1 true true a0_1 a0_2 a0_3) else (delta_Check_p.j1 kj1 (a0_3.toList != ([] : List UInt8)) true a0_1 a0_2 a0_3))) = some r := by rw [if_pos rfl] at H; exact H
            clear H
            have H := H1
            clear H1
            by_cases c10 : a0_1 < 0
            · rw [if_pos c10] at H
              have c10b0 : decide (a0_1 < 0) = true := decide_eq_true c10
              clear c10
              (first | rw [c10b0] | (simp only [i64_w, i32_w]; rw [c10b0]) | skip)
              have H' := Aside0.mk H
              clear H
              have zay : wc.cell? ⟨zae, 0, none⟩ = some (.bool true) := (blk_cell zaf.out 0).trans rfl
              have zaz : wc.cell? ⟨zae, 1, none⟩ = some (.int .i64 a0_1) := (blk_cell zaf.out 1).trans rfl
              have zaA : wc.cell? ⟨zae, 2, none⟩ = some (.int .i64 a0_2) := (blk_cell zaf.out 2).trans rfl
              have zaB : wc.cell? ⟨zae, 3, none⟩ = some (.string a0_3) := (blk_cell zaf.out 3).trans rfl
              have zaC := blk_frozen zaf.out 0
              have zaD := blk_frozen zaf.out 1
              have zaE := blk_frozen zaf.out 2
              have zaF := blk_frozen zaf.out 3
              go_wp2
              go_meet
              case rel => exact ⟨_, (true), (by first | rfl | (simp; done) | (simp [*]; done) | (simp [M.isEmpty_bne]; done)), H', ⟨by have := HJ1.out; first | omega | exact Nat.le_refl _⟩, ⟨by (with_reducible repeat (first | refine blk_drewN ?_ _ | refine blk_drew ?_ | refine blk_alloc ?_ _)); exact zaf.out⟩, ⟨M.up HB⟩⟩
            · rw [if_neg c10] at H
              have c10b0 : decide (a0_1 < 0) = false := decide_eq_false c10
              clear c10
              (first | rw [c10b0] | (simp only [i64_w, i32_w]; rw [c10b0]) | skip)
              by_cases c12 : a0_1 > 65536
              · rw [if_pos c12] at H
                have c12b0 : decide (65536 < a0_1) = true := decide_eq_true c12
                clear c12
                have H' := Aside0.mk H
                clear H
                have zaG : wc.cell? ⟨zae, 0, none⟩ = some (.bool true) := (blk_cell zaf.out 0).trans rfl
                have zaH : wc.cell? ⟨zae, 1, none⟩ = some (.int .i64 a0_1) := (blk_cell zaf.out 1).trans rfl
                have zaI : wc.cell? ⟨zae, 2, none⟩ = some (.int .i64 a0_2) := (blk_cell zaf.out 2).trans rfl
                have zaJ : wc.cell? ⟨zae, 3, none⟩ = some (.string a0_3) := (blk_cell zaf.out 3).trans rfl
                have zaK := blk_frozen zaf.out 0
                have zaL := blk_frozen zaf.out 1
                have zaM := blk_frozen zaf.out 2
                have zaN := blk_frozen zaf.out 3
                go_wp2
                go_meet
                case rel => exact ⟨_, (true), (by first | rfl | (simp; done) | (simp [*]; done) | (simp [M.isEmpty_bne]; done)), H', ⟨by have := HJ1.out; first | omega | exact Nat.le_refl _⟩, ⟨by (with_reducible repeat (first | refine blk_drewN ?_ _ | refine blk_drew ?_ | refine blk_alloc ?_ _)); exact zaf.out⟩, ⟨M.up HB⟩⟩
              · rw [if_neg c12] at H
                have c12b0 : decide (65536 < a0_1) = false := decide_eq_false c12
                clear c12
                have H' := Aside0.mk H
                clear H
                have zaO : wc.cell? ⟨zae, 0, none⟩ = some (.bool true) := (blk_cell zaf.out 0).trans rfl
                have zaP : wc.cell? ⟨zae, 1, none⟩ = some (.int .i64 a0_1) := (blk_cell zaf.out 1).trans rfl
                have zaQ : wc.cell? ⟨zae, 2, none⟩ = some (.int .i64 a0_2) := (blk_cell zaf.out 2).trans rfl
                have zaR : wc.cell? ⟨zae, 3, none⟩ = some (.string a0_3) := (blk_cell zaf.out 3).trans rfl
                have zaS := blk_frozen zaf.out 0
                have zaT := blk_frozen zaf.out 1
                have zaU := blk_frozen zaf.out 2
                have zaV := blk_frozen zaf.out 3
                go_wp2
                go_meet
                case rel => exact ⟨_, ((a0_3.toList != ([] : List UInt8))), (by first | rfl | (simp; done) | (simp [*]; done) | (simp [M.isEmpty_bne]; done)), H', ⟨by have := HJ1.out; first | omega | exact Nat.le_refl _⟩, ⟨by (with_reducible repeat (first | refine blk_drewN ?_ _ | refine blk_drew ?_ | refine blk_alloc ?_ _)); exact zaf.out⟩, ⟨M.up HB⟩⟩
          · replace c9 := Bool.eq_false_iff.mpr c9
            subst c9
            have H1 : (delta_Check_p.j1 kj1 false false a0_1 a0_2 a0_3) = some r := by rw [if_neg (show ¬ (false = true) by decide)] at H; exact H
            clear H
            have H := H1
            clear H1
            have H' := Aside0.mk H
            clear H
            have zaW : wc.cell? ⟨zae, 0, none⟩ = some (.bool false) := (blk_cell zaf.out 0).trans rfl
            have zaX : wc.cell? ⟨zae, 1, none⟩ = some (.int .i64 a0_1) := (blk_cell zaf.out 1).trans rfl
            have zaY : wc.cell? ⟨zae, 2, none⟩ = some (.int .i64 a0_2) := (blk_cell zaf.out 2).trans rfl
            have zaZ : wc.cell? ⟨zae, 3, none⟩ = some (.string a0_3) := (blk_cell zaf.out 3).trans rfl
            have za0 := blk_frozen zaf.out 0
            have za1 := blk_frozen zaf.out 1
            have za2 := blk_frozen zaf.out 2
            have za3 := blk_frozen zaf.out 3
            go_wp2
            go_meet
            case rel => exact ⟨_, (false), (by first | rfl | (simp; done) | (simp [*]; done) | (simp [M.isEmpty_bne]; done)), H', ⟨by have := HJ1.out; first | omega | exact Nat.le_refl _⟩, ⟨by (with_reducible repeat (first | refine blk_drewN ?_ _ | refine blk_drew ?_ | refine blk_alloc ?_ _)); exact zaf.out⟩, ⟨M.up HB⟩⟩
        case rest =>
          clear HC8
          try clear c1
          try clear p2
          try clear c4
          try clear c4b0
          try clear c7
          try clear c9
          try clear c10
          try clear c10b0
          try clear c12
          try clear c12b0
          try clear c14
          try clear zay
          try clear zaz
          try clear zaA
          try clear zaB
          try clear zaG
          try clear zaH
          try clear zaI
          try clear zaJ
          try clear zaO
          try clear zaP
          try clear zaQ
          try clear zaR
          try clear zaW
          try clear zaX
          try clear zaY
          try clear zaZ
          try clear zai
          try clear zaj
          try clear zak
          try clear zal
          try clear zaq
          try clear zar
          try clear zas
          try clear zat
          try clear zaC
          try clear zaD
          try clear zaE
          try clear zaF
          try clear zaK
          try clear zaL
          try clear zaM
          try clear zaN
          try clear zaS
          try clear zaT
          try clear zaU
          try clear zaV
          try clear za0
          try clear za1
          try clear za2
          try clear za3
          try clear zam
          try clear zan
          try clear zao
          try clear zap
          try clear zau
          try clear zav
          try clear zaw
          try clear zax
          try clear p2
          obtain ⟨kq, x12_7, rfl, HA, HJ7, zaf, HB⟩ := hcut
          cases kq with
          | zero => exact absurd HA.out (by simp [delta_Check_p.j1])
          | succ kj7 =>
            have H := HA.out
            clear HA
            simp only [delta_Check_p.j1] at H
            by_cases c16 : x12_7 = true
            · subst c16
              have H1 : (some 2) = some r := by rw [if_pos rfl] at H; exact H
              clear H
              have H := H1
              clear H1
              obtain rfl := Option.some.inj H
              go_wp2
              go_ret
              exact M.fin (M.up HB)
            · replace c16 := Bool.eq_false_iff.mpr c16
              subst c16
              have H1 : (if a0_0 = true then (delta_Check_p.j2 kj7 false) else (if a0_1 = 0 then (delta_Check_p.j2 kj7 (a0_2 != (a0_3.size : Int))) else (delta_Check_p.j2 kj7 true))) = some r := by rw [if_neg (show ¬ (false = true) by decide)] at H; exact H
              clear H
              have H := H1
              clear H1
              have HC17 := Aside0.mk H
              clear H
              go_upto_region 5 with (fail)
              go_cut [30] (fun v30 wc => ∃ (kq : Nat) (x30_16 : Bool), v30 = .bool x30_16 ∧ Aside0 (delta_Check_p.j2 kq x30_16 = some r) ∧ Aside0 (kq ≤ kj7) ∧ Aside0 (wc.heap[zae]? = some (.cells #[.bool a0_0, .int .i64 a0_1, .int .i64 a0_2, .string a0_3] 34 (0, 0))) ∧ Aside0 (Below w.heap.size w wc))
              case first =>
                have H := HC17.out
                clear HC17
                by_cases c18 : a0_0 = true
                · subst c18
                  have H1 : (delta_Check_p.j2 kj7 false) = some r := by rw [if_pos rfl] at H; exact H
                  clear H
                  have H := H1
                  clear H1
                  have H' := Aside0.mk H
                  clear H
                  have za4 : wc.cell? ⟨zae, 0, none⟩ = some (.bool true) := (blk_cell zaf.out 0).trans rfl
                  have za5 : wc.cell? ⟨zae, 1, none⟩ = some (.int .i64 a0_1) := (blk_cell zaf.out 1).trans rfl
                  have za6 : wc.cell? ⟨zae, 2, none⟩ = some (.int .i64 a0_2) := (blk_cell zaf.out 2).trans rfl
                  have za7 : wc.cell? ⟨zae, 3, none⟩ = some (.string a0_3) := (blk_cell zaf.out 3).trans rfl
                  have za8 := blk_frozen zaf.out 0
                  have za9 := blk_frozen zaf.out 1
                  have zba := blk_frozen zaf.out 2
                  have zbb := blk_frozen zaf.out 3
                  go_wp2
                  go_meet
                  case rel => exact ⟨_, (false), (by first | rfl | (simp; done) | (simp [*]; done) | (simp [M.isEmpty_bne]; done)), H', ⟨by have := HJ1.out; have := HJ7.out; first | omega | exact Nat.le_refl _⟩, ⟨by (with_reducible repeat (first | refine blk_drewN ?_ _ | refine blk_drew ?_ | refine blk_alloc ?_ _)); exact zaf.out⟩, ⟨M.up HB⟩⟩
                · replace c18 := Bool.eq_false_iff.mpr c18
                  subst c18
                  have H1 : (if a0_1 = 0 then (delta_Check_p.j2 kj7 (a0_2 != (a0_3.size : Int))) else (delta_Check_p.j2 kj7 true)) = some r := by rw [if_neg (show ¬ (false = true) by decide)] at H; exact H
                  clear H
                  have H := H1
                  clear H1
                  by_cases c20 : a0_1 = 0
                  · rw [if_pos c20] at H
                    have c20b0 : (a0_1 == 0) = true := beq_iff_eq.mpr c20
                    have c20b1 : (a0_1 != 0) = false := bne_eq_false_iff_eq.mpr c20
                    clear c20
                    (first | rw [c20b0] | (simp only [i64_w, i32_w]; rw [c20b0]) | skip)
                    have H' := Aside0.mk H
                    clear H
                    have zbc : wc.cell? ⟨zae, 0, none⟩ = some (.bool false) := (blk_cell zaf.out 0).trans rfl
                    have zbd : wc.cell? ⟨zae, 1, none⟩ = some (.int .i64 a0_1) := (blk_cell zaf.out 1).trans rfl
                    have zbe : wc.cell? ⟨zae, 2, none⟩ = some (.int .i64 a0_2) := (blk_cell zaf.out 2).trans rfl
                    have zbf : wc.cell? ⟨zae, 3, none⟩ = some (.string a0_3) := (blk_cell zaf.out 3).trans rfl
                    have zbg := blk_frozen zaf.out 0
                    have zbh := blk_frozen zaf.out 1
                    have zbi := blk_frozen zaf.out 2
                    have zbj := blk_frozen zaf.out 3
                    go_wp2
                    go_meet
                    case rel => exact ⟨_, ((a0_2 != (a0_3.size : Int))), (by first | rfl | (simp; done) | (simp [*]; done) | (simp [M.isEmpty_bne]; done)), H', ⟨by have := HJ1.out; have := HJ7.out; first | omega | exact Nat.le_refl _⟩, ⟨by (with_reducible repeat (first | refine blk_drewN ?_ _ | refine blk_drew ?_ | refine blk_alloc ?_ _)); exact zaf.out⟩, ⟨M.up HB⟩⟩
                  · rw [if_neg c20] at H
                    have c20b0 : (a0_1 == 0) = false := beq_eq_false_iff_ne.mpr c20
                    have c20b1 : (a0_1 != 0) = true := bne_iff_ne.mpr c20
                    (first | rw [c20b0] | (simp only [i64_w, i32_w]; rw [c20b0]) | skip)
                    have H' := Aside0.mk H
                    clear H
                    have zbk : wc.cell? ⟨zae, 0, none⟩ = some (.bool false) := (blk_cell zaf.out 0).trans rfl
                    have zbl : wc.cell? ⟨zae, 1, none⟩ = some (.int .i64 a0_1) := (blk_cell zaf.out 1).trans rfl
                    have zbm : wc.cell? ⟨zae, 2, none⟩ = some (.int .i64 a0_2) := (blk_cell zaf.out 2).trans rfl
                    have zbn : wc.cell? ⟨zae, 3, none⟩ = some (.string a0_3) := (blk_cell zaf.out 3).trans rfl
                    have zbo := blk_frozen zaf.out 0
                    have zbp := blk_frozen zaf.out 1
                    have zbq := blk_frozen zaf.out 2
                    have zbr := blk_frozen zaf.out 3
                    go_wp2
                    go_meet
                    case rel => exact ⟨_, (true), (by first | rfl | (simp; done) | (simp [*]; done) | (simp [M.isEmpty_bne]; done)), H', ⟨by have := HJ1.out; have := HJ7.out; first | omega | exact Nat.le_refl _⟩, ⟨by (with_reducible repeat (first | refine blk_drewN ?_ _ | refine blk_drew ?_ | refine blk_alloc ?_ _)); exact zaf.out⟩, ⟨M.up HB⟩⟩
              case rest =>
                clear HC17
                try clear c1
                try clear c2
                try clear p2
                try clear c4
                try clear c4b0
                try clear c7
                try clear c9
                try clear c10
                try clear c10b0
                try clear c12
                try clear c12b0
                try clear c14
                try clear c16
                try clear c18
                try clear c20
                try clear c20b0
                try clear c20b1
                try clear zay
                try clear zaz
                try clear zaA
                try clear zaB
                try clear zaG
                try clear zaH
                try clear zaI
                try clear zaJ
                try clear zaO
                try clear zaP
                try clear zaQ
                try clear zaR
                try clear zaW
                try clear zaX
                try clear zaY
                try clear zaZ
                try clear za4
                try clear za5
                try clear za6
                try clear za7
                try clear zbc
                try clear zbd
                try clear zbe
                try clear zbf
                try clear zbk
                try clear zbl
                try clear zbm
                try clear zbn
                try clear zai
                try clear zaj
                try clear zak
                try clear zal
                try clear zaq
                try clear zar
                try clear zas
                try clear zat
                try clear zaC
                try clear zaD
                try clear zaE
                try clear zaF
                try clear zaK
                try clear zaL
                try clear zaM
                try clear zaN
                try clear zaS
                try clear zaT
                try clear zaU
                try clear zaV
                try clear za0
                try clear za1
                try clear za2
                try clear za3
                try clear za8
                try clear za9
                try clear zba
                try clear zbb
                try clear zbg
                try clear zbh
                try clear zbi
                try clear zbj
                try clear zbo
                try clear zbp
                try clear zbq
                try clear zbr
                try clear zam
                try clear zan
                try clear zao
                try clear zap
                try clear zau
                try clear zav
                try clear zaw
                try clear zax
                try clear p2
                obtain ⟨kq, x30_16, rfl, HA, HJ16, zaf, HB⟩ := hcut
                cases kq with
                | zero => exact absurd HA.out (by simp [delta_Check_p.j2])
                | succ kj16 =>
                  have H := HA.out
                  clear HA
                  simp only [delta_Check_p.j2] at H
                  by_cases c23 : x30_16 = true
                  · subst c23
                    have H1 : (some 2) = some r := by rw [if_pos rfl] at H; exact H
                    clear H
                    have H := H1
                    clear H1
                    obtain rfl := Option.some.inj H
                    go_wp2
                    go_ret
                    exact M.fin (M.up HB)
                  · replace c23 := Bool.eq_false_iff.mpr c23
                    subst c23
                    have H1 : (some 0) = some r := by rw [if_neg (show ¬ (false = true) by decide)] at H; exact H
                    clear H
                    have H := H1
                    clear H1
                    obtain rfl := Option.some.inj H
                    go_wp2
                    go_ret
                    exact M.fin (M.up HB)

-- this session's own plain form
def delta_Check.f (c : Bool) (a n : Int) (o : ByteArray) : Option Int := some (if M.pok c a n o = true then 0 else 2)
theorem delta_Check.nil (s : ByteArray) : (s.toList != ([] : List UInt8)) = !decide (s.size = 0) := by
  rw [M.toList_bs, ← M.bs_length]
  cases M.bs s <;> rfl
theorem delta_Check.ev (c : Bool) (a n : Int) (o : ByteArray) (r : Int) (h : delta_Check.f c a n o = some r) : ∃ k, delta_Check_p.f k c a n o = some r := by
  refine ⟨0 + 1 + 1 + 1, ?_⟩
  rw [← h]
  unfold delta_Check_p.f delta_Check.f
  cases hp : M.pok c a n o with
  | true =>
    have hl := M.pok_len hp
    rw [if_neg (by omega), delta_Check_p.j0, if_neg (by simp; omega)]
    cases c with
    | true =>
      have hc := M.pok_copy hp
      rw [if_pos rfl, if_neg (by omega), if_neg (by omega), delta_Check.nil, decide_eq_true hc.2.2.2.2, delta_Check_p.j1, if_neg (by simp), if_pos rfl, delta_Check_p.j2]
      simp
    | false =>
      have hc := M.pok_own hp
      rw [if_neg (by simp), delta_Check_p.j1, if_neg (by simp), if_neg (by simp), if_pos hc.2.2.1, show (n != (o.size : Int)) = false from by simp [hc.2.2.2], delta_Check_p.j2]
      simp
  | false =>
    rw [if_neg (show ¬ false = true by simp)]
    by_cases h1 : n < 1
    · rw [if_pos h1, delta_Check_p.j0, if_pos rfl]
    · rw [if_neg h1, delta_Check_p.j0]
      by_cases h2 : n > 65536
      · rw [if_pos (decide_eq_true h2)]
      · rw [if_neg (by simp; omega)]
        cases c with
        | true =>
          rw [if_pos rfl]
          by_cases h3 : a < 0
          · rw [if_pos h3, delta_Check_p.j1, if_pos rfl]
          · rw [if_neg h3]
            by_cases h4 : a > 65536
            · rw [if_pos h4, delta_Check_p.j1, if_pos rfl]
            · rw [if_neg h4, delta_Check.nil]
              by_cases h5 : o.size = 0
              · exfalso
                have : M.pok true a n o = true := by unfold M.pok; simp only [if_true, Bool.and_eq_true, decide_eq_true_eq]; omega
                rw [this] at hp; cases hp
              · rw [decide_eq_false h5, delta_Check_p.j1, if_pos (by rfl)]
        | false =>
          rw [if_neg (by simp), delta_Check_p.j1, if_neg (by simp), if_neg (by simp)]
          by_cases h3 : a = 0
          · rw [if_pos h3]
            by_cases h4 : (o.size : Int) = n
            · exfalso
              have : M.pok false a n o = true := by unfold M.pok; simp only [Bool.false_eq_true, if_false, Bool.and_eq_true, decide_eq_true_eq]; omega
              rw [this] at hp; cases hp
            · rw [delta_Check_p.j2, if_pos (by simp; omega)]
          · rw [if_neg h3, delta_Check_p.j2, if_pos rfl]
theorem delta_Check.calls (a0_0 : Bool) (a0_1 : Int) (a0_2 : Int) (a0_3 : ByteArray) (r : Int) (w : World) (h : delta_Check.f a0_0 a0_1 a0_2 a0_3 = some r) :
    Calls Try.prog 14 #[.agg #[.bool a0_0, .int .i64 a0_1, .int .i64 a0_2, .string a0_3]] w fun e w' => e = .returned (.int .i64 r) ∧ Below w.heap.size w w' := by
  obtain ⟨k, hk⟩ := delta_Check.ev _ _ _ _ _ h
  exact delta_Check_p.calls (k := k) (w := w) (h := hk)

/-! ### varint_Put: function 39 -/
def varint_Put.f (a0 : Int) : Option ByteArray := if 0 ≤ a0 ∧ a0 < 18446744073709551616 then some (M.sb (M.vb a0.toNat)) else none

def varint_Put.inv (W w : World) (a0 : Nat) (m k : Nat) (pre : List Int) : Prop :=
  k ≤ 9 ∧ pre.length = k ∧ m < 2 * 128 ^ (9 - k) ∧ pre ++ M.vput m = M.vput a0 ∧
  W.ownsRow w.heap.size 75 1 (.slice (some ⟨w.heap.size, 0, none⟩) 10 10) 10 (nums .u8 (pre ++ List.replicate (10 - k) 0)) ∧ Below w.heap.size w W

theorem varint_Put.slice_ (b k : Nat) (hk : k ≤ 9) (W : World) :
    (Instr.sliceAt 75 (.pointer (some ⟨b, 0, none⟩)) none (some (.int .i64 ((k : Int) + 1))) none).run Try.prog W = .ok (.slice (some ⟨b, 0, none⟩) (k + 1) 10) W := by
  have ha : Try.prog.arrayLen 75 = 10 := by kernel_rfl
  rw [run_sliceAt_array_h W 75 _ (by kernel_rfl) .i64 _ (by omega) (by rw [ha]; omega), ha]
  have hs : (sizeOf (Try.prog.elem 75)).run Try.prog W = .ok 1 W := by kernel_rfl
  rw [hs]
  simp [Result.andThen, slicedAt, add_plain]

set_option maxHeartbeats 1000000 in
theorem varint_Put.nat (a0 : Nat) (w : World) (h1 : a0 < 18446744073709551616) :
    Calls Try.prog 39 #[.int .u64 a0] w fun e w' => e = .returned (.string (strOfNums (M.vput a0))) ∧ Below w.heap.size w w' := by
  go_enter Try.func39, Try.ntmps39
  go_wp2
  go_loopw [0, 4] (fun n i wr => ∃ (m k : Nat) (pre : List Int), n = .int .u64 m ∧ i = .int .i64 k ∧ varint_Put.inv wr w a0 m k pre) (fun n _ _ => (intOf n).toNat)
  case atStart =>
    refine ⟨a0, 0, [], rfl, rfl, Nat.zero_le _, rfl, by simpa using h1, rfl, ?_, below_alloc (Below.refl _ _) _⟩
    exact World.ownsRow_lit (base := w.heap.size) (e := 75) (size := 1) w #[Value.int IntKind.u8 0, Value.int IntKind.u8 0, Value.int IntKind.u8 0, Value.int IntKind.u8 0, Value.int IntKind.u8 0, Value.int IntKind.u8 0, Value.int IntKind.u8 0, Value.int IntKind.u8 0, Value.int IntKind.u8 0, Value.int IntKind.u8 0] 10 (Nat.le_refl _) (by decide) rfl
  case round =>
    obtain ⟨m, k, pre, rfl, rfl, hk, hl, hm, he, ho, hb⟩ := hrel
    obtain ⟨hc, hf⟩ := own_at ho (k : Int) (by omega) (by omega)
    have hm64 := M.put_m64 hm
    by_cases hlt : m < 128
    · have ht : decide ((m : Int) ≥ 128) = false := by simp; omega
      have hs := own_store ho (k : Int) ((m : Nat) : Int)
      rw [M.put_set pre k _ hk hl] at hs
      have ht2 := own_take (m := k + 1) hs.1 (by omega)
      have hconv := own_string (P := Try.prog) (src := 54) (dst := 9) (e := 5) (xs := (pre ++ [(m : Int)])) (by kernel_rfl) (by kernel_rfl) (by kernel_rfl) (by
        have e : List.take ((k + 1) * 1) (nums .u8 (pre ++ [(m : Int)] ++ List.replicate (10 - (k + 1)) 0)) = nums .u8 (pre ++ [(m : Int)]) := by
          rw [nums_append, Nat.mul_one, List.take_left' (by simp [nums, hl])]
        rw [e] at ht2; exact ht2)
      rw [← M.vput_low hlt, he] at hconv
      have hb' : Below w.heap.size w (wr.setCell ⟨w.heap.size, (k : Int).toNat, none⟩ (.int .u8 m)) := pw_below_grown hb _ hb.size hs.2 (fun q hq => by cases hq; exact Nat.le_refl _)
      have hsl := fun W => varint_Put.slice_ w.heap.size k hk W
      rw [Int.toNat_natCast] at hc hf hconv hb'
      clear ht2 hl he hs ho hm
      go_wp2
      go_ret
      exact ⟨rfl, hb'⟩
    · have ht : decide ((m : Int) ≥ 128) = true := by simp; omega
      obtain ⟨hk8, hm8⟩ := M.put_bound hk hm hlt
      have hs := own_store ho (k : Int) ((m % 128 + 128 : Nat) : Int)
      rw [M.put_set pre k _ hk hl] at hs
      have hb' : Below w.heap.size w (wr.setCell ⟨w.heap.size, (k : Int).toNat, none⟩ (.int .u8 ((m % 128 + 128 : Nat) : Int))) := pw_below_grown hb _ hb.size hs.2 (fun q hq => by cases hq; exact Nat.le_refl _)
      rw [Int.toNat_natCast] at hc hf hb' hs
      have HH : varint_Put.inv (wr.setCell ⟨w.heap.size, k, none⟩ (.int .u8 ((m % 128 + 128 : Nat) : Int))) w a0 (m / 128) (k + 1) (pre ++ [((m % 128 + 128 : Nat) : Int)]) :=
        ⟨hk8, by simp [hl], hm8, by rw [← he, M.vput_high hlt]; simp, hs.1, hb'⟩
      clear hs hb' hl he ho hm hm8
      have H := Aside0.mk HH
      clear HH
      have hor := M.or128 m
      go_wp2
      go_roundw
      case rel => exact ⟨m / 128, k + 1, _, by go_num, by go_num, H.out⟩
      case measure => simp [intOf]; omega

theorem varint_Put.calls (a0 : Int) (r : ByteArray) (w : World) (h : varint_Put.f a0 = some r) :
    Calls Try.prog 39 #[.int .u64 a0] w fun e w' => e = .returned (.string r) ∧ Below w.heap.size w w' := by
  unfold varint_Put.f at h
  split at h
  · rename_i hh
    obtain ⟨n, rfl⟩ := Int.eq_ofNat_of_zero_le hh.1
    obtain rfl := Option.some.inj h
    have := varint_Put.nat n w (by omega)
    rw [M.vput_vb] at this
    exact this
  · cases h

/-! ### scan_PutNum_p: function 28 -/
def scan_PutNum_p.f (a0 : Int) : Option (ByteArray) := (varint_Put.f (IntKind.u64.wrap (mx a0 0))).bind fun t111 => (some t111)
set_option maxHeartbeats 8000000 in
set_option maxRecDepth 100000 in
theorem scan_PutNum_p.calls (a0 : Int) (r : ByteArray) (w : World) (h : scan_PutNum_p.f a0 = some r) :
    Calls Try.prog 28 #[.int .i64 a0] w fun e w' => e = .returned (.string r) ∧ Below w.heap.size w w' := by
  have HB := Aside0.mk (Below.refl w.heap.size w)
  have H : ((varint_Put.f (IntKind.u64.wrap (mx a0 0))).bind fun t111 => (some t111)) = some r := h
  clear h
  obtain ⟨ji2, hji2⟩ : ∃ j_ : Int, (mx a0 0) = j_ := ⟨_, rfl⟩
  replace H : ((varint_Put.f (IntKind.u64.wrap (ji2))).bind fun t111 => (some t111)) = some r := by first | (rw [hji2] at H; exact H) | (simp only [hji2] at H ⊢; exact H)
  (try (have hji2l : 0 ≤ ji2 := by (rw [← hji2]; unfold mx; (repeat' split) <;> omega)))
  (try (have hji2m : 0 ≤ ji2 := by omega))
  have hji2_ : (if a0 < 0 then 0 else a0) = ji2 := hji2
  replace H := Option.bind_eq_some_iff.mp H
  obtain ⟨t111, A30, H⟩ := H
  replace H : (some t111) = some r := H
  have A3 := Aside0.mk A30
  clear A30
  obtain rfl := Option.some.inj H
  go_enter Try.func28, Try.ntmps28
  go_wp2_with (first | ((with_reducible refine gate_callee (f := 39) rfl ?_); refine goesL_ (some 6) rfl rfl Try.func39 (by kernel_rfl) rfl #[.int .u64 (IntKind.u64.wrap (ji2))] rfl (by (try simp only [List.map_toArray, List.map_cons, List.map_nil]); first | done | (simp only [hji2]; rfl) | rfl | (simp only [List.length_drop, List.length_take]; rfl)) ?_; (with_reducible refine (varint_Put.calls (IntKind.u64.wrap (ji2)) t111 _ A3.out).mono ?_); rintro e w4 ⟨rfl, hb⟩; refine ⟨_, rfl, ?_⟩; have n0_ := M.upS HB hb; clear HB; have HB := n0_; clear n0_; (try clear hb)))
  go_ret
  exact ⟨by first | rfl | (simp [errW_none, errW_some] <;> rfl) | (simp only [← hji2]; first | rfl | (simp [errW_none, errW_some] <;> rfl)) | (simp [*, errW_none, errW_some] <;> rfl), M.up HB⟩

-- this session's own plain form
def scan_PutNum.f (a0 : Int) : Option ByteArray := if a0 ≤ 9223372036854775807 then some (M.sb (M.vb a0.toNat)) else none
theorem scan_PutNum.ev (a0 : Int) (r : ByteArray) (h : scan_PutNum.f a0 = some r) : scan_PutNum_p.f a0 = some r := by
  unfold scan_PutNum.f at h
  split at h
  · rename_i hh
    have e : IntKind.u64.wrap (mx a0 0) = (a0.toNat : Int) := by
      by_cases h0 : 0 ≤ a0
      · rw [M.mx_ge h0, M.u64_id h0 (by omega)]; omega
      · rw [M.mx_le (by omega), M.u64_id (by decide) (by decide)]; omega
    unfold scan_PutNum_p.f varint_Put.f
    rw [e, if_pos ⟨by omega, by omega⟩, Option.bind_some, Int.toNat_natCast]
    exact h
  · cases h
theorem scan_PutNum.calls (a0 : Int) (r : ByteArray) (w : World) (h : scan_PutNum.f a0 = some r) :
    Calls Try.prog 28 #[.int .i64 a0] w fun e w' => e = .returned (.string r) ∧ Below w.heap.size w w' := by
  exact scan_PutNum_p.calls (w := w) (h := scan_PutNum.ev _ _ h)

end Go.Proofs.Ytadpicphohobbaa.EDeltaBack
