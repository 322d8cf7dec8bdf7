-- Written by this session's own program (wip/tools/ext.py) for this claim; Lean checks it.
import Derived.Test.YtadpicphohobbaaEDeltaPutsx0
namespace Go.Proofs.Ytadpicphohobbaa.EDeltaPuts
open Go.RowKit Go.Proofs.YtadpicphohobbaaW.PrintWords Go.Proofs.YtadpicphohobbaaW.PrintLast Go.Proofs.YtadpicphohobbaaW.PrintMore
attribute [local go_sem] M.run_leq M.run_gtr M.run_geq max2_int min2_int max_two min_two max_three min_three max_four min_four   -- for this text's walks alone
set_option linter.unusedVariables false
set_option linter.unusedSimpArgs false

/-! ### pleachref11_Is_p: function 15 -/
def pleachref11_Is_p.j0 : Nat → Bool → Bool → Int → Int → ByteArray → Option (Bool)
  | 0, _, _, _, _, _ => none
  | k + 1, x10, zaa, zab, zac, zad => if x10 = true then (some false) else (if zaa = true then (if zab ≥ 0 then (if zab ≤ 65536 then (some (zad.toList == ([] : List UInt8))) else (some false)) else (some false)) else (if zab = 0 then (some ((zad.size : Int) == zac)) else (some false)))
def pleachref11_Is_p.f (k : Nat) (a0_0 : Bool) (a0_1 : Int) (a0_2 : Int) (a0_3 : ByteArray) : Option (Bool) := if a0_2 < 1 then (pleachref11_Is_p.j0 k true a0_0 a0_1 a0_2 a0_3) else (pleachref11_Is_p.j0 k (decide (a0_2 > 65536)) a0_0 a0_1 a0_2 a0_3)
theorem pleachref11_Is_p.mono_l : ∀ k, (∀ y0 y1 y2 y3 y4, LeO (pleachref11_Is_p.j0 k y0 y1 y2 y3 y4) (pleachref11_Is_p.j0 (k + 1) y0 y1 y2 y3 y4))
  | 0 => fun _ _ _ _ _ r h => by simp [pleachref11_Is_p.j0] at h
  | k + 1 => by
    have ih0 := pleachref11_Is_p.mono_l k
    · intro y0 y1 y2 y3 y4
      unfold pleachref11_Is_p.j0
      repeat' first
      | (with_reducible exact ih0 _ _ _ _ _)
      | (with_reducible exact LeO.refl _)
      | (with_reducible exact LeO.none _)
      | (with_reducible refine LeO.ite ?_ ?_)
      | (with_reducible refine LeO.bind ?_ (fun _ => ?_))
      | exact ih0 _ _ _ _ _
      | exact LeO.none _
      | refine LeO.ite ?_ ?_
      | refine LeO.bind ?_ (fun _ => ?_)
theorem pleachref11_Is_p.mono : ∀ a0 a1 a2 a3 k, LeO (pleachref11_Is_p.f k a0 a1 a2 a3) (pleachref11_Is_p.f (k + 1) a0 a1 a2 a3) := by
  intro a0 a1 a2 a3 k
  have ih0 := pleachref11_Is_p.mono_l k
  unfold pleachref11_Is_p.f
  repeat' first
      | (with_reducible exact ih0 _ _ _ _ _)
      | (with_reducible exact LeO.refl _)
      | (with_reducible exact LeO.none _)
      | (with_reducible refine LeO.ite ?_ ?_)
      | (with_reducible refine LeO.bind ?_ (fun _ => ?_))
      | exact ih0 _ _ _ _ _
      | exact LeO.none _
      | refine LeO.ite ?_ ?_
      | refine LeO.bind ?_ (fun _ => ?_)
set_option maxHeartbeats 8000000 in
set_option maxRecDepth 100000 in
theorem pleachref11_Is_p.calls (k : Nat) (a0_0 : Bool) (a0_1 : Int) (a0_2 : Int) (a0_3 : ByteArray) (r : Bool) (w : World) (h : pleachref11_Is_p.f k a0_0 a0_1 a0_2 a0_3 = some r) :
    Calls Try.prog 15 #[.agg #[.bool a0_0, .int .i64 a0_1, .int .i64 a0_2, .string a0_3]] w fun e w' => e = .returned (.bool r) ∧ Below w.heap.size w w' := by
  have hu34 := Try.underlying34
  have HB := Aside0.mk (Below.refl w.heap.size w)
  have H : (if a0_2 < 1 then (pleachref11_Is_p.j0 k true a0_0 a0_1 a0_2 a0_3) else (pleachref11_Is_p.j0 k (decide (a0_2 > 65536)) a0_0 a0_1 a0_2 a0_3)) = some r := h
  clear h
  have HC2 := Aside0.mk H
  clear H
  go_enter Try.func15, Try.ntmps15
  go_upto_region 1 with (first | ((with_reducible refine gate_dst (N := 1) rfl ?_); (try (refine gate_guard (by rfl) ?_; dsimp only)); refine box_event ?hg (N := 1) ?hd (cs := #[.bool a0_0, .int .i64 a0_1, .int .i64 a0_2, .string a0_3]) (t := 34) ?hr ?_; (case hd => rfl); (case hg => rfl); (case hr => first | (go_simp; done) | (go_simp; rfl)); intro zae hg w3 hbox hb; have n0_ := M.upS HB hb; have n1_ := Aside0.mk (hbox); have n2_ := M.upG HB hg; have n3_ := M.upG HB hg; clear HB; have HB := n0_; have zaf := n1_; have zag := n2_; have zah := n3_; clear n0_ n1_ n2_ n3_; clear hb hbox hg))
  (try simp only [Act.put, List.setIfInBounds_toArray, List.set_cons_zero, List.set_cons_succ])
  go_cut [10] (fun v10 wc => ∃ (kq : Nat) (x10_1 : Bool), v10 = .bool x10_1 ∧ Aside0 (pleachref11_Is_p.j0 kq x10_1 a0_0 a0_1 a0_2 a0_3 = some r) ∧ Aside0 (kq ≤ k) ∧ Aside0 (wc.heap[zae]? = some (.cells #[.bool a0_0, .int .i64 a0_1, .int .i64 a0_2, .string a0_3] 34 (0, 0))) ∧ Aside0 (Below w.heap.size w wc))
  case first =>
    have H := HC2.out
    clear HC2
    by_cases c4 : a0_2 < 1
    · rw [if_pos c4] at H
      have c4b0 : decide (a0_2 < 1) = true := decide_eq_true c4
      clear c4
      (first | rw [c4b0] | (simp only [i64_w, i32_w]; rw [c4b0]) | skip)
      have H' := Aside0.mk H
      clear H
      have zai : w3.cell? ⟨zae, 0, none⟩ = some (.bool a0_0) := (blk_cell zaf.out 0).trans rfl
      have zaj : w3.cell? ⟨zae, 1, none⟩ = some (.int .i64 a0_1) := (blk_cell zaf.out 1).trans rfl
      have zak : w3.cell? ⟨zae, 2, none⟩ = some (.int .i64 a0_2) := (blk_cell zaf.out 2).trans rfl
      have zal : w3.cell? ⟨zae, 3, none⟩ = some (.string a0_3) := (blk_cell zaf.out 3).trans rfl
      have zam := blk_frozen zaf.out 0
      have zan := blk_frozen zaf.out 1
      have zao := blk_frozen zaf.out 2
      have zap := blk_frozen zaf.out 3
      go_wp2
      go_meet
      case rel => exact ⟨_, (true), (by first | rfl | (simp; done) | (simp [*]; done) | (simp [M.isEmpty_bne]; done)), H', ⟨by first | omega | exact Nat.le_refl _⟩, ⟨by (with_reducible repeat (first | refine blk_drewN ?_ _ | refine blk_drew ?_ | refine blk_alloc ?_ _)); exact zaf.out⟩, ⟨M.up HB⟩⟩
    · rw [if_neg c4] at H
      have c4b0 : decide (a0_2 < 1) = false := decide_eq_false c4
      clear c4
      (first | rw [c4b0] | (simp only [i64_w, i32_w]; rw [c4b0]) | skip)
      have H' := Aside0.mk H
      clear H
      have zaq : w3.cell? ⟨zae, 0, none⟩ = some (.bool a0_0) := (blk_cell zaf.out 0).trans rfl
      have zar : w3.cell? ⟨zae, 1, none⟩ = some (.int .i64 a0_1) := (blk_cell zaf.out 1).trans rfl
      have zas : w3.cell? ⟨zae, 2, none⟩ = some (.int .i64 a0_2) := (blk_cell zaf.out 2).trans rfl
      have zat : w3.cell? ⟨zae, 3, none⟩ = some (.string a0_3) := (blk_cell zaf.out 3).trans rfl
      have zau := blk_frozen zaf.out 0
      have zav := blk_frozen zaf.out 1
      have zaw := blk_frozen zaf.out 2
      have zax := blk_frozen zaf.out 3
      go_wp2
      go_meet
      case rel => exact ⟨_, (decide (a0_2 > 65536)), (by first | rfl | (simp; done) | (simp [*]; done) | (simp [M.isEmpty_bne]; done)), H', ⟨by first | omega | exact Nat.le_refl _⟩, ⟨by (with_reducible repeat (first | refine blk_drewN ?_ _ | refine blk_drew ?_ | refine blk_alloc ?_ _)); exact zaf.out⟩, ⟨M.up HB⟩⟩
  case rest =>
    clear HC2
    try clear c1
    try clear p2
    try clear c4
    try clear c4b0
    try clear zai
    try clear zaj
    try clear zak
    try clear zal
    try clear zaq
    try clear zar
    try clear zas
    try clear zat
    try clear zam
    try clear zan
    try clear zao
    try clear zap
    try clear zau
    try clear zav
    try clear zaw
    try clear zax
    obtain ⟨kq, x10_1, rfl, HA, HJ1, zaf, HB⟩ := hcut
    cases kq with
    | zero => exact absurd HA.out (by simp [pleachref11_Is_p.j0])
    | succ kj1 =>
      have H := HA.out
      clear HA
      simp only [pleachref11_Is_p.j0] at H
      by_cases c7 : x10_1 = true
      · subst c7
        have H1 : (some false) = some r := by rw [if_pos rfl] at H; exact H
        clear H
        have H := H1
        clear H1
        obtain rfl := Option.some.inj H
        go_wp2
        go_ret
        exact M.fin (M.up HB)
      · replace c7 := Bool.eq_false_iff.mpr c7
        subst c7
        have H1 : (if a0_0 = true then (if a0_1 ≥ 0 then (if a0_1 ≤ 65536 then (some (a0_3.toList == ([] : List UInt8))) else (some false)) else (some false)) else (if a0_1 = 0 then (some ((a0_3.size : Int) == a0_2)) else (some false))) = some r := by rw [if_neg (show ¬ (false = true) by decide)] at H; exact H
        clear H
        have H := H1
        clear H1
        by_cases c8 : a0_0 = true
        · subst c8
          have H1 : (if a0_1 ≥ 0 then (if a0_1 ≤ 65536 then (some (a0_3.toList == ([] : List UInt8))) else (some false)) else (some false)) = some r := by rw [if_pos rfl] at H; exact H
          clear H
          have H := H1
          clear H1
          by_cases c9 : a0_1 ≥ 0
          · rw [if_pos c9] at H
            have c9b0 : decide (0 ≤ a0_1) = true := decide_eq_true c9
            clear c9
            by_cases c10 : a0_1 ≤ 65536
            · rw [if_pos c10] at H
              have c10b0 : decide (a0_1 ≤ 65536) = true := decide_eq_true c10
              clear c10
              obtain rfl := Option.some.inj H
              have zay : wc.cell? ⟨zae, 0, none⟩ = some (.bool true) := (blk_cell zaf.out 0).trans rfl
              have zaz : wc.cell? ⟨zae, 1, none⟩ = some (.int .i64 a0_1) := (blk_cell zaf.out 1).trans rfl
              have zaA : wc.cell? ⟨zae, 2, none⟩ = some (.int .i64 a0_2) := (blk_cell zaf.out 2).trans rfl
              have zaB : wc.cell? ⟨zae, 3, none⟩ = some (.string a0_3) := (blk_cell zaf.out 3).trans rfl
              have zaC := blk_frozen zaf.out 0
              have zaD := blk_frozen zaf.out 1
              have zaE := blk_frozen zaf.out 2
              have zaF := blk_frozen zaf.out 3
              go_wp2
              go_ret
              exact M.fin (M.up HB)
            · rw [if_neg c10] at H
              have c10b0 : decide (a0_1 ≤ 65536) = false := decide_eq_false c10
              clear c10
              obtain rfl := Option.some.inj H
              have zaG : wc.cell? ⟨zae, 0, none⟩ = some (.bool true) := (blk_cell zaf.out 0).trans rfl
              have zaH : wc.cell? ⟨zae, 1, none⟩ = some (.int .i64 a0_1) := (blk_cell zaf.out 1).trans rfl
              have zaI : wc.cell? ⟨zae, 2, none⟩ = some (.int .i64 a0_2) := (blk_cell zaf.out 2).trans rfl
              have zaJ : wc.cell? ⟨zae, 3, none⟩ = some (.string a0_3) := (blk_cell zaf.out 3).trans rfl
              have zaK := blk_frozen zaf.out 0
              have zaL := blk_frozen zaf.out 1
              have zaM := blk_frozen zaf.out 2
              have zaN := blk_frozen zaf.out 3
              go_wp2
              go_ret
              exact M.fin (M.up HB)
          · rw [if_neg c9] at H
            have c9b0 : decide (0 ≤ a0_1) = false := decide_eq_false c9
            clear c9
            obtain rfl := Option.some.inj H
            have zaO : wc.cell? ⟨zae, 0, none⟩ = some (.bool true) := (blk_cell zaf.out 0).trans rfl
            have zaP : wc.cell? ⟨zae, 1, none⟩ = some (.int .i64 a0_1) := (blk_cell zaf.out 1).trans rfl
            have zaQ : wc.cell? ⟨zae, 2, none⟩ = some (.int .i64 a0_2) := (blk_cell zaf.out 2).trans rfl
            have zaR : wc.cell? ⟨zae, 3, none⟩ = some (.string a0_3) := (blk_cell zaf.out 3).trans rfl
            have zaS := blk_frozen zaf.out 0
            have zaT := blk_frozen zaf.out 1
            have zaU := blk_frozen zaf.out 2
            have zaV := blk_frozen zaf.out 3
            go_wp2
            go_ret
            exact M.fin (M.up HB)
        · replace c8 := Bool.eq_false_iff.mpr c8
          subst c8
          have H1 : (if a0_1 = 0 then (some ((a0_3.size : Int) == a0_2)) else (some false)) = some r := by rw [if_neg (show ¬ (false = true) by decide)] at H; exact H
          clear H
          have H := H1
          clear H1
          by_cases c14 : a0_1 = 0
          · rw [if_pos c14] at H
            have c14b0 : (a0_1 == 0) = true := beq_iff_eq.mpr c14
            have c14b1 : (a0_1 != 0) = false := bne_eq_false_iff_eq.mpr c14
            clear c14
            obtain rfl := Option.some.inj H
            have zaW : wc.cell? ⟨zae, 0, none⟩ = some (.bool false) := (blk_cell zaf.out 0).trans rfl
            have zaX : wc.cell? ⟨zae, 1, none⟩ = some (.int .i64 a0_1) := (blk_cell zaf.out 1).trans rfl
            have zaY : wc.cell? ⟨zae, 2, none⟩ = some (.int .i64 a0_2) := (blk_cell zaf.out 2).trans rfl
            have zaZ : wc.cell? ⟨zae, 3, none⟩ = some (.string a0_3) := (blk_cell zaf.out 3).trans rfl
            have za0 := blk_frozen zaf.out 0
            have za1 := blk_frozen zaf.out 1
            have za2 := blk_frozen zaf.out 2
            have za3 := blk_frozen zaf.out 3
            go_wp2
            go_ret
            exact M.fin (M.up HB)
          · rw [if_neg c14] at H
            have c14b0 : (a0_1 == 0) = false := beq_eq_false_iff_ne.mpr c14
            have c14b1 : (a0_1 != 0) = true := bne_iff_ne.mpr c14
            obtain rfl := Option.some.inj H
            have za4 : wc.cell? ⟨zae, 0, none⟩ = some (.bool false) := (blk_cell zaf.out 0).trans rfl
            have za5 : wc.cell? ⟨zae, 1, none⟩ = some (.int .i64 a0_1) := (blk_cell zaf.out 1).trans rfl
            have za6 : wc.cell? ⟨zae, 2, none⟩ = some (.int .i64 a0_2) := (blk_cell zaf.out 2).trans rfl
            have za7 : wc.cell? ⟨zae, 3, none⟩ = some (.string a0_3) := (blk_cell zaf.out 3).trans rfl
            have za8 := blk_frozen zaf.out 0
            have za9 := blk_frozen zaf.out 1
            have zba := blk_frozen zaf.out 2
            have zbb := blk_frozen zaf.out 3
            go_wp2
            go_ret
            exact M.fin (M.up HB)

-- this session's own plain form
def pleachref11_Is.f (c : Bool) (a n : Int) (o : ByteArray) : Option Bool := some (M.pok c a n o)
theorem pleachref11_Is.nil (s : ByteArray) : (s.toList == ([] : List UInt8)) = decide (s.size = 0) := by
  rw [M.toList_bs, ← M.bs_length]
  cases M.bs s <;> rfl
theorem pleachref11_Is.ev (c : Bool) (a n : Int) (o : ByteArray) (r : Bool) (h : pleachref11_Is.f c a n o = some r) : ∃ k, pleachref11_Is_p.f k c a n o = some r := by
  refine ⟨0 + 1, ?_⟩
  rw [← h]
  unfold pleachref11_Is_p.f pleachref11_Is.f M.pok
  by_cases h1 : n < 1
  · rw [if_pos h1, pleachref11_Is_p.j0, if_pos rfl]
    congr 1
    rw [decide_eq_false (by omega), Bool.false_and]
  · rw [if_neg h1, pleachref11_Is_p.j0]
    by_cases h2 : n > 65536
    · rw [if_pos (decide_eq_true h2)]
      congr 1
      rw [decide_eq_false (by omega), Bool.false_and]
    · rw [if_neg (by simp; omega), decide_eq_true (show 1 ≤ n ∧ n ≤ 65536 by omega), Bool.true_and]
      cases c with
      | true =>
        rw [if_pos rfl, if_pos rfl, pleachref11_Is.nil]
        by_cases h3 : a ≥ 0
        · rw [if_pos h3]
          by_cases h4 : a ≤ 65536
          · rw [if_pos h4]; congr 1; apply decide_eq_decide.2; omega
          · rw [if_neg h4]; congr 1; exact (decide_eq_false (by omega)).symm
        · rw [if_neg h3]; congr 1; exact (decide_eq_false (by omega)).symm
      | false =>
        rw [if_neg (show ¬ false = true by simp), if_neg (show ¬ false = true by simp)]
        by_cases h3 : a = 0
        · rw [if_pos h3]; congr 1; rw [show ((o.size : Int) == n) = decide ((o.size : Int) = n) from rfl]; apply decide_eq_decide.2; omega
        · rw [if_neg h3]; congr 1; exact (decide_eq_false (by omega)).symm
theorem pleachref11_Is.calls (a0_0 : Bool) (a0_1 : Int) (a0_2 : Int) (a0_3 : ByteArray) (r : Bool) (w : World) (h : pleachref11_Is.f a0_0 a0_1 a0_2 a0_3 = some r) :
    Calls Try.prog 15 #[.agg #[.bool a0_0, .int .i64 a0_1, .int .i64 a0_2, .string a0_3]] w fun e w' => e = .returned (.bool r) ∧ Below w.heap.size w w' := by
  obtain ⟨k, hk⟩ := pleachref11_Is.ev _ _ _ _ _ h
  exact pleachref11_Is_p.calls (k := k) (w := w) (h := hk)

/-! ### pleachref01_Digits_p: function 45 -/
def pleachref01_Digits_p.l0 : Nat → Int → List Int → Option (List Int)
  | 0, _, _ => none
  | k + 1, x0, x3 => if x0 > 0 then (if x3.length < 17592186044416 then (pleachref01_Digits_p.l0 k (IntKind.u64.wrap (Int.tdiv x0 128)) (x3 ++ [wrap64 (Int.tmod x0 128)])) else (none)) else (some x3)
def pleachref01_Digits_p.f (k : Nat) (a0 : Int) : Option (List Int) := pleachref01_Digits_p.l0 k (IntKind.u64.wrap (Int.tdiv a0 128)) (([wrap64 (Int.tmod a0 128)] : List Int))
theorem pleachref01_Digits_p.mono_l : ∀ k, (∀ y0 y1, LeO (pleachref01_Digits_p.l0 k y0 y1) (pleachref01_Digits_p.l0 (k + 1) y0 y1))
  | 0 => fun _ _ r h => by simp [pleachref01_Digits_p.l0] at h
  | k + 1 => by
    have ih0 := pleachref01_Digits_p.mono_l k
    · intro y0 y1
      unfold pleachref01_Digits_p.l0
      repeat' first
      | (with_reducible exact ih0 _ _)
      | (with_reducible exact LeO.refl _)
      | (with_reducible exact LeO.none _)
      | (with_reducible refine LeO.ite ?_ ?_)
      | (with_reducible refine LeO.bind ?_ (fun _ => ?_))
      | exact ih0 _ _
      | exact LeO.none _
      | refine LeO.ite ?_ ?_
      | refine LeO.bind ?_ (fun _ => ?_)
theorem pleachref01_Digits_p.mono : ∀ a0 k, LeO (pleachref01_Digits_p.f k a0) (pleachref01_Digits_p.f (k + 1) a0) := by
  intro a0 k
  have ih0 := pleachref01_Digits_p.mono_l k
  unfold pleachref01_Digits_p.f
  repeat' first
      | (with_reducible exact ih0 _ _)
      | (with_reducible exact LeO.refl _)
      | (with_reducible exact LeO.none _)
      | (with_reducible refine LeO.ite ?_ ?_)
      | (with_reducible refine LeO.bind ?_ (fun _ => ?_))
      | exact ih0 _ _
      | exact LeO.none _
      | refine LeO.ite ?_ ?_
      | refine LeO.bind ?_ (fun _ => ?_)
set_option maxHeartbeats 8000000 in
set_option maxRecDepth 100000 in
theorem pleachref01_Digits_p.calls (k : Nat) (a0 : Int) (r : List Int) (w : World) (h : pleachref01_Digits_p.f k a0 = some r) :
    Calls Try.prog 45 #[.int .u64 a0] w fun e w' => ∃ v0_ : Value, e = .returned (v0_) ∧ Kd.R (Kd.int .i64) 3 w' w.heap.size (fun _ => True) v0_ r ∧ Below w.heap.size w w' := by
  have HB := Aside0.mk (Below.refl w.heap.size w)
  have H : (pleachref01_Digits_p.l0 k (IntKind.u64.wrap (Int.tdiv a0 128)) (([wrap64 (Int.tmod a0 128)] : List Int))) = some r := h
  clear h
  obtain ⟨y111, hy111⟩ : ∃ y_ : List Int, y_ = (([wrap64 (Int.tmod a0 128)] : List Int)) := ⟨_, rfl⟩
  replace H : (pleachref01_Digits_p.l0 k (IntKind.u64.wrap (Int.tdiv a0 128)) y111) = some r := by first | (rw [hy111]; with_reducible exact H) | (have H2_ := (Option.bind_some _ _).symm.trans H; rw [hy111]; with_reducible exact H2_) | (have H2_ := (Option.bind_some _ _).symm.trans H; with_reducible exact H2_) | with_reducible exact H | (rw [hy111]; exact H) | exact H
  have Ny111 := Aside0.mk hy111
  clear hy111
  have H' := Aside0.mk H
  clear H
  go_enter Try.func45, Try.ntmps45
  go_wp2_with (first | ((with_reducible refine gate_dst (N := 7) rfl ?_); refine Kd.R_lit (Kd.int .i64) _ 3 ?hg (N := 7) ?hd (xs := ([wrap64 (Int.tmod a0 128)] : List Int)) (inner := [.int .i64 (wrap64 (Int.tmod a0 128))]) (ok := fun _ => True) (okp := fun _ => True) ?hr ?hp (fun _ hk => hk) trivial (Below.refl _ _) (Nat.le_refl _) (by simp) ?_; (case hd => rfl); (case hg => rfl); (case hr => first | (go_simp; done) | (go_simp; rfl)); (case hp => exact (Reps.one (show Kd.M (Kd.int .i64) _ _ _ (wrap64 (Int.tmod a0 128)) [.int .i64 (wrap64 (Int.tmod a0 128))] from rfl) (Reps.none _ _))); intro v112 w2 ho3 hb hg_ hnew_; clear hg_ hnew_; (first | rw [← Ny111.out] at ho3 | (simp only [Int.reduceToNat] at ho3; rw [← Ny111.out] at ho3)); have n0_ := Aside0.mk (Kd.R_lower ho3 (below_size (M.up HB))); have n1_ := M.upS HB hb; clear HB; have HO113 := n0_; have HB := n1_; clear n0_ n1_; clear hb ho3))
  go_loopg [0, 3] k (fun kq v0 v3 w' => ∃ (x0_1 : Int) (x3_1 : List Int), v0 = .int .u64 x0_1 ∧ Aside0 (pleachref01_Digits_p.l0 kq x0_1 x3_1 = some r) ∧ Aside0 (kq ≤ k) ∧ Aside0 (Kd.R (Kd.int .i64) 3 w' w.heap.size (fun _ => True) v3 x3_1) ∧ Aside0 (Below w.heap.size w w'))
  case atStart => exact ⟨(IntKind.u64.wrap (Int.tdiv a0 128)), (y111), (by first | rfl | (simp; done) | (simp [*]; done) | (simp [M.isEmpty_bne]; done)), H', ⟨Nat.le_refl _⟩, ⟨by (with_reducible repeat (first | apply Kd.R_alloc | apply Kd.R_drewN | apply Kd.R_drew)); exact HO113.out⟩, ⟨M.up HB⟩⟩
  case round =>
    clear H'
    try clear p2
    obtain ⟨x0_1, x3_1, rfl, HA, HK1, zbc, HB⟩ := hrel
    cases gk with
    | zero => exact absurd HA.out (by simp [pleachref01_Digits_p.l0])
    | succ k1 =>
      have H := HA.out
      clear HA
      simp only [pleachref01_Digits_p.l0] at H
      by_cases c4 : x0_1 > 0
      · rw [if_pos c4] at H
        have c4b0 : decide (0 < x0_1) = true := decide_eq_true c4
        clear c4
        by_cases c5 : x3_1.length < 17592186044416
        · rw [if_pos c5] at H
          have LMc5 := Aside0.mk c5
          clear c5
          obtain ⟨y114, hy114⟩ : ∃ y_ : List Int, y_ = (x3_1 ++ [wrap64 (Int.tmod x0_1 128)]) := ⟨_, rfl⟩
          replace H : (pleachref01_Digits_p.l0 k1 (IntKind.u64.wrap (Int.tdiv x0_1 128)) y114) = some r := by first | (rw [hy114]; with_reducible exact H) | (have H2_ := (Option.bind_some _ _).symm.trans H; rw [hy114]; with_reducible exact H2_) | (have H2_ := (Option.bind_some _ _).symm.trans H; with_reducible exact H2_) | with_reducible exact H | (rw [hy114]; exact H) | exact H
          have Ny114 := Aside0.mk hy114
          clear hy114
          have H' := Aside0.mk H
          clear H
          go_wp2_with (first | ((with_reducible refine gate_builtin (b := .append) (xs := #[.tmp 12, .tmp 16]) rfl ?_); at_builtin; refine Kd.R_append (Kd.int .i64) (w0 := w) w.heap.size rfl (.tmp 12) (.tmp 16) 73 3 (.int .i64 0) 8 rfl Try.underlying73 info3 rfl (by decide) (by omega) u3 x3_1 (wrap64 (Int.tmod x0_1 128)) [.int .i64 (wrap64 (Int.tmod x0_1 128))] (fun _ => True) (fun _ => False) rfl rfl ?aP (fun _ hk => hk.elim) ?aF ?aO ?aB ?aS ?aL ?_; (case aP => exact rfl); (case aB => exact (M.up HB)); (case aF => exact (fun _ _ => trivial)); (case aO => exact (M.ro zbc)); (case aS => exact (below_size (M.up HB))); (case aL => have := LMc5.out; omega); intro v115 w6 ho hb hg hat; rw [← Ny114.out] at ho; have n0_ := Aside0.mk (hb); have n1_ := Aside0.mk (ho); clear HB zbc; have HB := n0_; have HO116 := n1_; clear n0_ n1_; clear ho hb hg hat))
          go_roundg k1
          case measure => have := HK1.out; omega
          case rel => exact ⟨(IntKind.u64.wrap (Int.tdiv x0_1 128)), (y114), (by first | rfl | (simp; done) | (simp [*]; done) | (simp [M.isEmpty_bne]; done)), H', ⟨by have := HK1.out; omega⟩, ⟨by (with_reducible repeat (first | apply Kd.R_alloc | apply Kd.R_drewN | apply Kd.R_drew)); exact HO116.out⟩, ⟨M.up HB⟩⟩
        · rw [if_neg c5] at H
          exact absurd H (by simp)
      · rw [if_neg c4] at H
        have c4b0 : decide (0 < x0_1) = false := decide_eq_false c4
        clear c4
        obtain rfl := Option.some.inj H
        go_wp2
        go_ret
        exact ⟨_, by first | rfl | (simp [errW_none, errW_some] <;> rfl) | (simp [*, errW_none, errW_some] <;> rfl), by (with_reducible repeat (first | apply Kd.R_alloc | apply Kd.R_drewN | apply Kd.R_drew)); exact zbc.out, M.up HB⟩

-- this session's own plain form
def pleachref01_Digits.f (a0 : Int) : Option (List Int) := if 0 ≤ a0 ∧ a0 < 18446744073709551616 then some (M.vdig a0.toNat) else none
theorem pleachref01_Digits.loop (d : Nat) : ∀ (m : Nat) (pre : List Int), m < 128 ^ d → m < 18446744073709551616 → pre.length + d ≤ 100 →
    ∃ k, pleachref01_Digits_p.l0 k (m : Int) pre = some (if m = 0 then pre else pre ++ M.vdig m) := by
  induction d with
  | zero => ?_
  | succ d ih => ?_
  all_goals
    intro m pre hm h64 hl
    by_cases h0 : m = 0
    case pos => exact ⟨1, by simp only [pleachref01_Digits_p.l0]; rw [if_neg (by omega), if_pos h0]⟩
    case neg =>
      first
      | (exfalso; simp at hm; omega)
      | (obtain ⟨k, hk⟩ := ih (m / 128) (pre ++ [((m % 128 : Nat) : Int)]) (by rw [Nat.pow_succ] at hm; omega) (by omega) (by simp; omega)
         refine ⟨k + 1, ?_⟩
         have e1 : IntKind.u64.wrap (Int.tdiv (m : Int) 128) = ((m / 128 : Nat) : Int) := by
           rw [Int.tdiv_eq_ediv_of_nonneg (by omega), M.u64_id (by omega) (by omega)]; omega
         have e2 : wrap64 (Int.tmod (m : Int) 128) = ((m % 128 : Nat) : Int) := by
           rw [Int.tmod_eq_emod_of_nonneg (by omega), M.wrap64_id (by omega) (by omega)]; omega
         simp only [pleachref01_Digits_p.l0]
         rw [if_pos (by omega), if_pos (by omega), e1, e2, hk, if_neg h0]
         by_cases h1 : m < 128
         · rw [if_pos (by omega), M.vdig_low h1, Nat.mod_eq_of_lt h1]
         · rw [if_neg (by omega), M.vdig_high h1]; simp)
theorem pleachref01_Digits.ev (a0 : Int) (r : List Int) (h : pleachref01_Digits.f a0 = some r) : ∃ k, pleachref01_Digits_p.f k a0 = some r := by
  unfold pleachref01_Digits.f at h
  split at h
  · rename_i hh
    obtain rfl := Option.some.inj h
    obtain ⟨m, rfl⟩ := Int.eq_ofNat_of_zero_le hh.1
    have e1 : IntKind.u64.wrap (Int.tdiv (m : Int) 128) = ((m / 128 : Nat) : Int) := by
      rw [Int.tdiv_eq_ediv_of_nonneg (by omega), M.u64_id (by omega) (by omega)]; omega
    have e2 : wrap64 (Int.tmod (m : Int) 128) = ((m % 128 : Nat) : Int) := by
      rw [Int.tmod_eq_emod_of_nonneg (by omega), M.wrap64_id (by omega) (by omega)]; omega
    obtain ⟨k, hk⟩ := pleachref01_Digits.loop 9 (m / 128) [((m % 128 : Nat) : Int)] (by omega) (by omega) (by simp)
    refine ⟨k, ?_⟩
    unfold pleachref01_Digits_p.f
    rw [e1, e2, hk, Int.toNat_natCast]
    by_cases h1 : m < 128
    · rw [if_pos (by omega), M.vdig_low h1, Nat.mod_eq_of_lt h1]
    · rw [if_neg (by omega), M.vdig_high h1]; simp
  · cases h
theorem pleachref01_Digits.calls (a0 : Int) (r : List Int) (w : World) (h : pleachref01_Digits.f a0 = some r) :
    Calls Try.prog 45 #[.int .u64 a0] w fun e w' => ∃ v0_ : Value, e = .returned (v0_) ∧ Kd.R (Kd.int .i64) 3 w' w.heap.size (fun _ => True) v0_ r ∧ Below w.heap.size w w' := by
  obtain ⟨k, hk⟩ := pleachref01_Digits.ev _ _ h
  exact pleachref01_Digits_p.calls (k := k) (w := w) (h := hk)

/-! ### pleachref01_Put_p: function 38 -/
def pleachref01_Put_p.l0 : Nat → List Int → ByteArray → Int → Option (ByteArray)
  | 0, _, _, _ => none
  | k + 1, x3, x4, x5 => if x5 < (x3.length : Int) then (if 0 ≤ x5 then (if (wrap64 (x5 + 1)) < (x3.length : Int) then ((some (([(wrap64 ((rd x3 x5) + 128)) % 256] : List Int) : List Int)).bind fun y121 => (if x4.size + (strOfNums y121).size ≤ 9223372036854775807 then (pleachref01_Put_p.l0 k x3 (x4 ++ (strOfNums y121)) (wrap64 (x5 + 1))) else (none))) else ((some (([(rd x3 x5) % 256] : List Int) : List Int)).bind fun y124 => (if x4.size + (strOfNums y124).size ≤ 9223372036854775807 then (pleachref01_Put_p.l0 k x3 (x4 ++ (strOfNums y124)) (wrap64 (x5 + 1))) else (none)))) else (none)) else (some x4)
def pleachref01_Put_p.f (k : Nat) (a0 : Int) : Option (ByteArray) := (pleachref01_Digits.f a0).bind fun t117 => (pleachref01_Put_p.l0 k t117 (⟨#[]⟩ : ByteArray) 0)
theorem pleachref01_Put_p.mono_l : ∀ k, (∀ y0 y1 y2, LeO (pleachref01_Put_p.l0 k y0 y1 y2) (pleachref01_Put_p.l0 (k + 1) y0 y1 y2))
  | 0 => fun _ _ _ r h => by simp [pleachref01_Put_p.l0] at h
  | k + 1 => by
    have ih0 := pleachref01_Put_p.mono_l k
    · intro y0 y1 y2
      unfold pleachref01_Put_p.l0
      repeat' first
      | (with_reducible exact ih0 _ _ _)
      | (with_reducible exact LeO.refl _)
      | (with_reducible exact LeO.none _)
      | (with_reducible refine LeO.ite ?_ ?_)
      | (with_reducible refine LeO.bind ?_ (fun _ => ?_))
      | exact ih0 _ _ _
      | exact LeO.none _
      | refine LeO.ite ?_ ?_
      | refine LeO.bind ?_ (fun _ => ?_)
theorem pleachref01_Put_p.mono : ∀ a0 k, LeO (pleachref01_Put_p.f k a0) (pleachref01_Put_p.f (k + 1) a0) := by
  intro a0 k
  have ih0 := pleachref01_Put_p.mono_l k
  unfold pleachref01_Put_p.f
  repeat' first
      | (with_reducible exact ih0 _ _ _)
      | (with_reducible exact LeO.refl _)
      | (with_reducible exact LeO.none _)
      | (with_reducible refine LeO.ite ?_ ?_)
      | (with_reducible refine LeO.bind ?_ (fun _ => ?_))
      | exact ih0 _ _ _
      | exact LeO.none _
      | refine LeO.ite ?_ ?_
      | refine LeO.bind ?_ (fun _ => ?_)
set_option maxHeartbeats 8000000 in
set_option maxRecDepth 100000 in
theorem pleachref01_Put_p.calls (k : Nat) (a0 : Int) (r : ByteArray) (w : World) (h : pleachref01_Put_p.f k a0 = some r) :
    Calls Try.prog 38 #[.int .u64 a0] w fun e w' => e = .returned (.string r) ∧ Below w.heap.size w w' := by
  have HB := Aside0.mk (Below.refl w.heap.size w)
  have H : ((pleachref01_Digits.f a0).bind fun t117 => (pleachref01_Put_p.l0 k t117 (⟨#[]⟩ : ByteArray) 0)) = some r := h
  clear h
  replace H := Option.bind_eq_some_iff.mp H
  obtain ⟨t117, A20, H⟩ := H
  replace H : (pleachref01_Put_p.l0 k t117 (⟨#[]⟩ : ByteArray) 0) = some r := H
  have A2 := Aside0.mk A20
  clear A20
  have H' := Aside0.mk H
  clear H
  go_enter Try.func38, Try.ntmps38
  go_wp2_with (first | ((with_reducible refine gate_callee (f := 45) rfl ?_); refine M.goes (some 8) Try.func45 #[.int .u64 a0] rfl ?_; (with_reducible refine (pleachref01_Digits.calls a0 t117 _ A2.out).mono ?_); rintro e w3 ⟨v118, rfl, ho0, hb⟩; refine ⟨_, rfl, ?_⟩; have n0_ := Aside0.mk (Kd.R_lower ho0 (below_size (M.up HB))); have n1_ := M.upS HB hb; clear HB; have HO119 := n0_; have HB := n1_; clear n0_ n1_; (try clear hb); (try clear ho0)))
  go_loopg [4, 5] k (fun kq v4 v5 w' => ∃ (x4_1 : ByteArray) (x5_1 : Int), v4 = .string x4_1 ∧ v5 = .int .i64 x5_1 ∧ Aside0 (pleachref01_Put_p.l0 kq t117 x4_1 x5_1 = some r) ∧ Aside0 (kq ≤ k) ∧ Aside0 (Kd.R (Kd.int .i64) 3 w' w.heap.size (fun _ => True) v118 t117) ∧ Aside0 (Below w.heap.size w w'))
  case atStart => exact ⟨((⟨#[]⟩ : ByteArray)), (0), (by first | rfl | (simp; done) | (simp [*]; done) | (simp [M.isEmpty_bne]; done)), (by first | rfl | (simp; done) | (simp [*]; done) | (simp [M.isEmpty_bne]; done)), H', ⟨Nat.le_refl _⟩, ⟨by (with_reducible repeat (first | apply Kd.R_alloc | apply Kd.R_drewN | apply Kd.R_drew)); exact HO119.out⟩, ⟨M.up HB⟩⟩
  case round =>
    clear H'
    try clear p2
    try clear c3
    obtain ⟨x4_1, x5_1, rfl, rfl, HA, HK1, zbc, HB⟩ := hrel
    cases gk with
    | zero => exact absurd HA.out (by simp [pleachref01_Put_p.l0])
    | succ k1 =>
      have H := HA.out
      clear HA
      simp only [pleachref01_Put_p.l0] at H
      by_cases c4 : x5_1 < (t117.length : Int)
      · rw [if_pos c4] at H
        have c4b0 : decide (x5_1 < (t117.length : Int)) = true := decide_eq_true c4
        clear c4
        by_cases c5 : 0 ≤ x5_1
        · rw [if_pos c5] at H
          have c5b0 : decide (0 ≤ x5_1) = true := decide_eq_true c5
          clear c5
          by_cases c6 : (wrap64 (x5_1 + 1)) < (t117.length : Int)
          · rw [if_pos c6] at H
            have c6b0 : decide ((wrap64 (x5_1 + 1)) < (t117.length : Int)) = true := decide_eq_true c6
            clear c6
            obtain ⟨y121, hy121⟩ : ∃ y_ : List Int, y_ = (([(wrap64 ((rd t117 x5_1) + 128)) % 256] : List Int)) := ⟨_, rfl⟩
            replace H : (if x4_1.size + (strOfNums y121).size ≤ 9223372036854775807 then (pleachref01_Put_p.l0 k1 t117 (x4_1 ++ (strOfNums y121)) (wrap64 (x5_1 + 1))) else (none)) = some r := by first | (rw [hy121]; with_reducible exact H) | (have H2_ := (Option.bind_some _ _).symm.trans H; rw [hy121]; with_reducible exact H2_) | (have H2_ := (Option.bind_some _ _).symm.trans H; with_reducible exact H2_) | with_reducible exact H | (rw [hy121]; exact H) | exact H
            have Ny121 := Aside0.mk hy121
            clear hy121
            by_cases c7 : x4_1.size + (strOfNums y121).size ≤ 9223372036854775807
            · rw [if_pos c7] at H
              have c7b0 := eq_true c7
              have c7b1 : decide (x4_1.size + (strOfNums y121).size ≤ 9223372036854775807) = true := decide_eq_true c7
              try have c7b2 : (9223372036854775807 < x4_1.size + (strOfNums y121).size) = False := eq_false (Nat.not_lt.2 c7)
              have H' := Aside0.mk H
              clear H
              obtain ⟨Ao8, co8, eo8⟩ := Kd.R_slice zbc.out
              subst eo8
              have p120 : 0 ≤ (x5_1 : Int) := of_decide_eq_true (by first | (with_reducible assumption) | assumption)
              have q120 : x5_1 < (t117.length : Int) := of_decide_eq_true (by first | (with_reducible assumption) | assumption)
              obtain ⟨ad120, e120, hx120_0⟩ := Kd.at_int (Kd.R_reads' zbc.out).2.2 x5_1 p120 q120
              cases e120
              replace p120 := eq_true p120
              replace q120 := eq_true q120
              go_wp2_with (first | ((with_reducible refine gate_dst (N := 29) rfl ?_); refine Kd.R_lit (Kd.int .u8) _ 5 ?hg (N := 29) ?hd (xs := ([(wrap64 ((rd t117 x5_1) + 128)) % 256] : List Int)) (inner := [.int .u8 ((wrap64 ((rd t117 x5_1) + 128)) % 256)]) (ok := fun _ => True) (okp := fun _ => True) ?hr ?hp (fun _ hk => hk) trivial (Below.refl _ _) (Nat.le_refl _) (by simp) ?_; (case hd => rfl); (case hg => rfl); (case hr => first | (go_simp; done) | (go_simp; rfl)); (case hp => exact (Reps.one (show Kd.M (Kd.int .u8) _ _ _ ((wrap64 ((rd t117 x5_1) + 128)) % 256) [.int .u8 ((wrap64 ((rd t117 x5_1) + 128)) % 256)] from rfl) (Reps.none _ _))); intro v122 w9 ho10 hb hg_ hnew_; clear hg_ hnew_; (first | rw [← Ny121.out] at ho10 | (simp only [Int.reduceToNat] at ho10; rw [← Ny121.out] at ho10)); have n0_ := M.roB zbc hb; have n1_ := Aside0.mk (Kd.R_lower ho10 (below_size (M.up HB))); have n2_ := M.upS HB hb; clear zbc HB; have zbc := n0_; have HO123 := n1_; have HB := n2_; clear n0_ n1_ n2_; clear hb ho10; have hcv11 := own_string (P := Try.prog) Try.underlying54 Try.underlying5 Try.underlying9 (Kd.own_of_R HO123.out)))
              go_roundg k1
              case measure => have := HK1.out; omega
              case rel => exact ⟨(x4_1 ++ (strOfNums y121)), (wrap64 (x5_1 + 1)), (by first | rfl | (simp; done) | (simp [*]; done) | (simp [M.isEmpty_bne]; done)), (by first | rfl | (simp; done) | (simp [*]; done) | (simp [M.isEmpty_bne]; done)), H', ⟨by have := HK1.out; omega⟩, ⟨by (with_reducible repeat (first | apply Kd.R_alloc | apply Kd.R_drewN | apply Kd.R_drew)); exact zbc.out⟩, ⟨M.up HB⟩⟩
            · rw [if_neg c7] at H
              exact absurd H (by simp)
          · rw [if_neg c6] at H
            have c6b0 : decide ((wrap64 (x5_1 + 1)) < (t117.length : Int)) = false := decide_eq_false c6
            clear c6
            obtain ⟨y124, hy124⟩ : ∃ y_ : List Int, y_ = (([(rd t117 x5_1) % 256] : List Int)) := ⟨_, rfl⟩
            replace H : (if x4_1.size + (strOfNums y124).size ≤ 9223372036854775807 then (pleachref01_Put_p.l0 k1 t117 (x4_1 ++ (strOfNums y124)) (wrap64 (x5_1 + 1))) else (none)) = some r := by first | (rw [hy124]; with_reducible exact H) | (have H2_ := (Option.bind_some _ _).symm.trans H; rw [hy124]; with_reducible exact H2_) | (have H2_ := (Option.bind_some _ _).symm.trans H; with_reducible exact H2_) | with_reducible exact H | (rw [hy124]; exact H) | exact H
            have Ny124 := Aside0.mk hy124
            clear hy124
            by_cases c12 : x4_1.size + (strOfNums y124).size ≤ 9223372036854775807
            · rw [if_pos c12] at H
              have c12b0 := eq_true c12
              have c12b1 : decide (x4_1.size + (strOfNums y124).size ≤ 9223372036854775807) = true := decide_eq_true c12
              try have c12b2 : (9223372036854775807 < x4_1.size + (strOfNums y124).size) = False := eq_false (Nat.not_lt.2 c12)
              have H' := Aside0.mk H
              clear H
              obtain ⟨Ao13, co13, eo13⟩ := Kd.R_slice zbc.out
              subst eo13
              have p120 : 0 ≤ (x5_1 : Int) := of_decide_eq_true (by first | (with_reducible assumption) | assumption)
              have q120 : x5_1 < (t117.length : Int) := of_decide_eq_true (by first | (with_reducible assumption) | assumption)
              obtain ⟨ad120, e120, hx120_0⟩ := Kd.at_int (Kd.R_reads' zbc.out).2.2 x5_1 p120 q120
              cases e120
              replace p120 := eq_true p120
              replace q120 := eq_true q120
              go_wp2_with (first | ((with_reducible refine gate_dst (N := 29) rfl ?_); refine Kd.R_lit (Kd.int .u8) _ 5 ?hg (N := 29) ?hd (xs := ([(rd t117 x5_1) % 256] : List Int)) (inner := [.int .u8 ((rd t117 x5_1) % 256)]) (ok := fun _ => True) (okp := fun _ => True) ?hr ?hp (fun _ hk => hk) trivial (Below.refl _ _) (Nat.le_refl _) (by simp) ?_; (case hd => rfl); (case hg => rfl); (case hr => first | (go_simp; done) | (go_simp; rfl)); (case hp => exact (Reps.one (show Kd.M (Kd.int .u8) _ _ _ ((rd t117 x5_1) % 256) [.int .u8 ((rd t117 x5_1) % 256)] from rfl) (Reps.none _ _))); intro v125 w14 ho15 hb hg_ hnew_; clear hg_ hnew_; (first | rw [← Ny124.out] at ho15 | (simp only [Int.reduceToNat] at ho15; rw [← Ny124.out] at ho15)); have n0_ := M.roB zbc hb; have n1_ := Aside0.mk (Kd.R_lower ho15 (below_size (M.up HB))); have n2_ := M.upS HB hb; clear zbc HB; have zbc := n0_; have HO126 := n1_; have HB := n2_; clear n0_ n1_ n2_; clear hb ho15; have hcv16 := own_string (P := Try.prog) Try.underlying54 Try.underlying5 Try.underlying9 (Kd.own_of_R HO126.out)))
              go_roundg k1
              case measure => have := HK1.out; omega
              case rel => exact ⟨(x4_1 ++ (strOfNums y124)), (wrap64 (x5_1 + 1)), (by first | rfl | (simp; done) | (simp [*]; done) | (simp [M.isEmpty_bne]; done)), (by first | rfl | (simp; done) | (simp [*]; done) | (simp [M.isEmpty_bne]; done)), H', ⟨by have := HK1.out; omega⟩, ⟨by (with_reducible repeat (first | apply Kd.R_alloc | apply Kd.R_drewN | apply Kd.R_drew)); exact zbc.out⟩, ⟨M.up HB⟩⟩
            · rw [if_neg c12] at H
              exact absurd H (by simp)
        · rw [if_neg c5] at H
          exact absurd H (by simp)
      · rw [if_neg c4] at H
        have c4b0 : decide (x5_1 < (t117.length : Int)) = false := decide_eq_false c4
        clear c4
        obtain rfl := Option.some.inj H
        obtain ⟨Ao17, co17, eo17⟩ := Kd.R_slice zbc.out
        subst eo17
        go_wp2
        go_ret
        exact M.fin (M.up HB)

-- this session's own plain form
def pleachref01_Put.f (a0 : Int) : Option ByteArray := if 0 ≤ a0 ∧ a0 < 18446744073709551616 then some (M.sb (M.vb a0.toNat)) else none
theorem pleachref01_Put.one (d : Int) : strOfNums [d] = M.sb [UInt8.ofNat d.toNat] := rfl
theorem pleachref01_Put.loop (l : List Int) (hl : l.length ≤ 10) (hr : ∀ d ∈ l, 0 ≤ d ∧ d < 128) : ∀ (rest pre : List Int) (out : ByteArray), l = pre ++ rest → out.size = pre.length →
    ∃ k, pleachref01_Put_p.l0 k l out (pre.length : Int) = some (out ++ M.sb (M.venc rest)) := by
  intro rest
  induction rest with
  | nil =>
    intro pre out he ho
    refine ⟨1, ?_⟩
    simp only [pleachref01_Put_p.l0]
    rw [if_neg (by rw [he]; simp)]
    congr 1
    exact M.bs_inj (by rw [M.bs_append]; simp [M.venc, M.bs_sb])
  | cons d rest ih =>
    intro pre out he ho
    have hlen : l.length = pre.length + rest.length + 1 := by rw [he]; simp; omega
    have hd := hr d (by rw [he]; simp)
    have hrd : rd l (pre.length : Int) = d := by rw [rd, he]; simp
    have hw : wrap64 ((pre.length : Int) + 1) = ((pre.length + 1 : Nat) : Int) := by rw [M.wrap64_id (by omega) (by omega)]; omega
    have hsz : ∀ x, (strOfNums [x]).size = 1 := fun x => by rw [strOfNums_size]; rfl
    have hp : pre.length + 1 = (pre ++ [d]).length := by simp
    cases rest with
    | nil =>
      obtain ⟨k, hk⟩ := ih (pre ++ [d]) (out ++ M.sb [UInt8.ofNat d.toNat]) (by rw [he]; simp) (by rw [M.size_append, M.size_sb, ho]; simp)
      refine ⟨k + 1, ?_⟩
      have e : (rd l (pre.length : Int)) % 256 = d := by rw [hrd]; omega
      simp only [List.length_nil] at hlen
      simp only [pleachref01_Put_p.l0, Option.bind_some]
      rw [if_pos (by omega), if_pos (by omega), hw, if_neg (by omega), e, hsz, if_pos (by omega), pleachref01_Put.one, hp, hk]
      congr 1
      exact M.bs_inj (by simp [M.bs_append, M.bs_sb, M.venc])
    | cons e rest =>
      obtain ⟨k, hk⟩ := ih (pre ++ [d]) (out ++ M.sb [UInt8.ofNat (d.toNat + 128)]) (by rw [he]; simp) (by rw [M.size_append, M.size_sb, ho]; simp)
      refine ⟨k + 1, ?_⟩
      have e2 : (wrap64 ((rd l (pre.length : Int)) + 128)) % 256 = d + 128 := by rw [hrd, M.wrap64_id (by omega) (by omega)]; omega
      have e3 : (d + 128).toNat = d.toNat + 128 := by omega
      simp only [pleachref01_Put_p.l0, Option.bind_some]
      simp only [List.length_cons] at hlen
      rw [if_pos (by omega), if_pos (by omega), hw, if_pos (by omega), e2, hsz, if_pos (by omega), pleachref01_Put.one, e3, hp, hk]
      congr 1
      exact M.bs_inj (by simp [M.bs_append, M.bs_sb, M.venc_cons])
theorem pleachref01_Put.ev (a0 : Int) (r : ByteArray) (h : pleachref01_Put.f a0 = some r) : ∃ k, pleachref01_Put_p.f k a0 = some r := by
  unfold pleachref01_Put.f at h
  split at h
  · rename_i hh
    obtain rfl := Option.some.inj h
    obtain ⟨m, rfl⟩ := Int.eq_ofNat_of_zero_le hh.1
    obtain ⟨k, hk⟩ := pleachref01_Put.loop (M.vdig m) (by rw [M.vdig_length]; exact M.vb_le m (by omega)) (M.vdig_range m) (M.vdig m) [] (⟨#[]⟩ : ByteArray) rfl rfl
    refine ⟨k, ?_⟩
    unfold pleachref01_Put_p.f pleachref01_Digits.f
    rw [if_pos hh]
    simp only [Option.bind_some, Int.toNat_natCast]
    refine Eq.trans hk ?_
    congr 1
    exact M.bs_inj (by rw [M.bs_append, M.bs_nil, List.nil_append, M.bs_sb, M.bs_sb, M.venc_vdig])
  · cases h
theorem pleachref01_Put.calls (a0 : Int) (r : ByteArray) (w : World) (h : pleachref01_Put.f a0 = some r) :
    Calls Try.prog 38 #[.int .u64 a0] w fun e w' => e = .returned (.string r) ∧ Below w.heap.size w w' := by
  obtain ⟨k, hk⟩ := pleachref01_Put.ev _ _ h
  exact pleachref01_Put_p.calls (k := k) (w := w) (h := hk)

/-! ### pleachref04_PutNum_p: function 24 -/
def pleachref04_PutNum_p.j0 : Nat → Int → Option (ByteArray)
  | 0, _ => none
  | k + 1, x0 => (pleachref01_Put.f (IntKind.u64.wrap (x0))).bind fun t127 => (some t127)
def pleachref04_PutNum_p.f (k : Nat) (a0 : Int) : Option (ByteArray) := if a0 < 0 then (pleachref04_PutNum_p.j0 k 0) else (pleachref04_PutNum_p.j0 k a0)
theorem pleachref04_PutNum_p.mono_l : ∀ k, (∀ y0, LeO (pleachref04_PutNum_p.j0 k y0) (pleachref04_PutNum_p.j0 (k + 1) y0))
  | 0 => fun _ r h => by simp [pleachref04_PutNum_p.j0] at h
  | k + 1 => by
    have ih0 := pleachref04_PutNum_p.mono_l k
    · intro y0
      unfold pleachref04_PutNum_p.j0
      repeat' first
      | (with_reducible exact ih0 _)
      | (with_reducible exact LeO.refl _)
      | (with_reducible exact LeO.none _)
      | (with_reducible refine LeO.ite ?_ ?_)
      | (with_reducible refine LeO.bind ?_ (fun _ => ?_))
      | exact ih0 _
      | exact LeO.none _
      | refine LeO.ite ?_ ?_
      | refine LeO.bind ?_ (fun _ => ?_)
theorem pleachref04_PutNum_p.mono : ∀ a0 k, LeO (pleachref04_PutNum_p.f k a0) (pleachref04_PutNum_p.f (k + 1) a0) := by
  intro a0 k
  have ih0 := pleachref04_PutNum_p.mono_l k
  unfold pleachref04_PutNum_p.f
  repeat' first
      | (with_reducible exact ih0 _)
      | (with_reducible exact LeO.refl _)
      | (with_reducible exact LeO.none _)
      | (with_reducible refine LeO.ite ?_ ?_)
      | (with_reducible refine LeO.bind ?_ (fun _ => ?_))
      | exact ih0 _
      | exact LeO.none _
      | refine LeO.ite ?_ ?_
      | refine LeO.bind ?_ (fun _ => ?_)
set_option maxHeartbeats 8000000 in
set_option maxRecDepth 100000 in
theorem pleachref04_PutNum_p.calls (k : Nat) (a0 : Int) (r : ByteArray) (w : World) (h : pleachref04_PutNum_p.f k a0 = some r) :
    Calls Try.prog 24 #[.int .i64 a0] w fun e w' => e = .returned (.string r) ∧ Below w.heap.size w w' := by
  have HB := Aside0.mk (Below.refl w.heap.size w)
  have H : (if a0 < 0 then (pleachref04_PutNum_p.j0 k 0) else (pleachref04_PutNum_p.j0 k a0)) = some r := h
  clear h
  have HC2 := Aside0.mk H
  clear H
  go_enter Try.func24, Try.ntmps24
  go_upto_if 4 with (fail)
  go_cut [0] (fun v0 wc => ∃ (kq : Nat) (x0_1 : Int), v0 = .int .i64 x0_1 ∧ Aside0 (pleachref04_PutNum_p.j0 kq x0_1 = some r) ∧ Aside0 (kq ≤ k) ∧ Aside0 (Below w.heap.size w wc))
  case first =>
    have H := HC2.out
    clear HC2
    by_cases c3 : a0 < 0
    · rw [if_pos c3] at H
      have c3b0 : decide (a0 < 0) = true := decide_eq_true c3
      clear c3
      (first | rw [c3b0] | (simp only [i64_w, i32_w]; rw [c3b0]) | skip)
      have H' := Aside0.mk H
      clear H
      go_wp2
      go_meet
      case rel => exact ⟨_, (0), (by first | rfl | (simp; done) | (simp [*]; done) | (simp [M.isEmpty_bne]; done)), H', ⟨by first | omega | exact Nat.le_refl _⟩, ⟨M.up HB⟩⟩
    · rw [if_neg c3] at H
      have c3b0 : decide (a0 < 0) = false := decide_eq_false c3
      clear c3
      (first | rw [c3b0] | (simp only [i64_w, i32_w]; rw [c3b0]) | skip)
      have H' := Aside0.mk H
      clear H
      go_wp2
      go_meet
      case rel => exact ⟨_, (a0), (by first | rfl | (simp; done) | (simp [*]; done) | (simp [M.isEmpty_bne]; done)), H', ⟨by first | omega | exact Nat.le_refl _⟩, ⟨M.up HB⟩⟩
  case rest =>
    clear HC2
    try clear c2
    try clear p2
    try clear c3
    try clear c3b0
    obtain ⟨kq, x0_1, rfl, HA, HJ1, HB⟩ := hcut
    cases kq with
    | zero => exact absurd HA.out (by simp [pleachref04_PutNum_p.j0])
    | succ kj1 =>
      have H := HA.out
      clear HA
      simp only [pleachref04_PutNum_p.j0] at H
      replace H := Option.bind_eq_some_iff.mp H
      obtain ⟨t127, A40, H⟩ := H
      replace H : (some t127) = some r := H
      have A4 := Aside0.mk A40
      clear A40
      obtain rfl := Option.some.inj H
      go_wp2_with (first | ((with_reducible refine gate_callee (f := 38) rfl ?_); refine M.goes (some 7) Try.func38 #[.int .u64 (IntKind.u64.wrap (x0_1))] rfl ?_; (with_reducible refine (pleachref01_Put.calls (IntKind.u64.wrap (x0_1)) t127 _ A4.out).mono ?_); rintro e w5 ⟨rfl, hb⟩; refine ⟨_, rfl, ?_⟩; have n0_ := M.upS HB hb; clear HB; have HB := n0_; clear n0_; (try clear hb)))
      go_ret
      exact M.fin (M.up HB)

-- this session's own plain form
def pleachref04_PutNum.f (a0 : Int) : Option ByteArray := if a0 ≤ 9223372036854775807 then some (M.sb (M.vb a0.toNat)) else none
theorem pleachref04_PutNum.ev (a0 : Int) (r : ByteArray) (h : pleachref04_PutNum.f a0 = some r) : ∃ k, pleachref04_PutNum_p.f k a0 = some r := by
  unfold pleachref04_PutNum.f at h
  split at h
  · rename_i hh
    have key : ∀ n : Nat, n ≤ 9223372036854775807 → pleachref04_PutNum_p.j0 1 (n : Int) = some (M.sb (M.vb n)) := by
      intro n hn
      simp only [pleachref04_PutNum_p.j0, pleachref01_Put.f]
      rw [M.u64_id (by omega) (by omega), if_pos ⟨by omega, by omega⟩, Int.toNat_natCast]; rfl
    refine ⟨1, ?_⟩
    unfold pleachref04_PutNum_p.f
    by_cases h0 : a0 < 0
    · rw [if_pos h0]
      have := key 0 (by decide)
      rw [show a0.toNat = 0 from by omega] at h
      exact this.trans h
    · rw [if_neg h0]
      have := key a0.toNat (by omega)
      rw [show ((a0.toNat : Nat) : Int) = a0 from by omega] at this
      exact this.trans h
  · cases h
theorem pleachref04_PutNum.calls (a0 : Int) (r : ByteArray) (w : World) (h : pleachref04_PutNum.f a0 = some r) :
    Calls Try.prog 24 #[.int .i64 a0] w fun e w' => e = .returned (.string r) ∧ Below w.heap.size w w' := by
  obtain ⟨k, hk⟩ := pleachref04_PutNum.ev _ _ h
  exact pleachref04_PutNum_p.calls (k := k) (w := w) (h := hk)

end Go.Proofs.Ytadpicphohobbaa.EDeltaPuts
