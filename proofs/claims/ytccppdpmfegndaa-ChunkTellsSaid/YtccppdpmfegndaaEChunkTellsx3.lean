-- Written by this session's own program (wip/tools/ext.py) for this claim; Lean checks it.
import Derived.Test.YtccppdpmfegndaaEChunkTellsx0
namespace Go.Proofs.Ytccppdpmfegndaa.EChunkTells
open Go.RowKit Go.Proofs.YtccppdpmfegndaaW.PrintWords Go.Proofs.YtccppdpmfegndaaW.PrintLast Go.Proofs.YtccppdpmfegndaaW.PrintMore
attribute [local go_sem] M.run_leq M.run_gtr M.run_geq max2_int min2_int max_two min_two max_three min_three max_four min_four   -- for this text's walks alone
set_option linter.unusedVariables false
set_option linter.unusedSimpArgs false

/-! ### pleachlaw19_few: function 6 -/
def pleachlaw19_few.l0 : Nat → Int → Int → Int → List (S29) → List Int → Option (Bool)
  | 0, _, _, _, _, _ => none
  | k + 1, x3, x4, zaa, zab, zac => if x4 < (zab.length : Int) then (if x4 ≤ 20 then (if 0 ≤ x4 then (pleachlaw19_few.l0 k (wrap64 (x3 + ((mn (((rd_T29 zab x4).f0).size : Int) 10000) + (mn (((rd_T29 zab x4).f1).size : Int) 10000)))) (wrap64 (x4 + 1)) zaa zab zac) else (none)) else (if (zab.length : Int) ≤ 20 then (if (zac.length : Int) ≤ 20 then (some (decide (x3 ≤ 9000))) else (some false)) else (some false))) else (if (zab.length : Int) ≤ 20 then (if (zac.length : Int) ≤ 20 then (some (decide (x3 ≤ 9000))) else (some false)) else (some false))
def pleachlaw19_few.f (k : Nat) (a0_0 : Int) (l0_1 : List (S29)) (l0_2 : List Int) : Option (Bool) := pleachlaw19_few.l0 k 0 0 a0_0 l0_1 l0_2
theorem pleachlaw19_few.mono_l : ∀ k, (∀ y0 y1 y2 y3 y4, LeO (pleachlaw19_few.l0 k y0 y1 y2 y3 y4) (pleachlaw19_few.l0 (k + 1) y0 y1 y2 y3 y4))
  | 0 => fun _ _ _ _ _ r h => by simp [pleachlaw19_few.l0] at h
  | k + 1 => by
    have ih0 := pleachlaw19_few.mono_l k
    · intro y0 y1 y2 y3 y4
      unfold pleachlaw19_few.l0
      repeat' first
      | (with_reducible exact ih0 _ _ _ _ _)
      | (with_reducible exact LeO.refl _)
      | (with_reducible exact LeO.none _)
      | (with_reducible refine LeO.ite ?_ ?_)
      | (with_reducible refine LeO.bind ?_ (fun _ => ?_))
      | exact ih0 _ _ _ _ _
      | exact LeO.none _
      | refine LeO.ite ?_ ?_
      | refine LeO.bind ?_ (fun _ => ?_)
theorem pleachlaw19_few.mono : ∀ a0 a1 a2 k, LeO (pleachlaw19_few.f k a0 a1 a2) (pleachlaw19_few.f (k + 1) a0 a1 a2) := by
  intro a0 a1 a2 k
  have ih0 := pleachlaw19_few.mono_l k
  unfold pleachlaw19_few.f
  repeat' first
      | (with_reducible exact ih0 _ _ _ _ _)
      | (with_reducible exact LeO.refl _)
      | (with_reducible exact LeO.none _)
      | (with_reducible refine LeO.ite ?_ ?_)
      | (with_reducible refine LeO.bind ?_ (fun _ => ?_))
      | exact ih0 _ _ _ _ _
      | exact LeO.none _
      | refine LeO.ite ?_ ?_
      | refine LeO.bind ?_ (fun _ => ?_)
set_option maxHeartbeats 8000000 in
set_option maxRecDepth 100000 in
theorem pleachlaw19_few.calls (k : Nat) (a0_0 : Int) (A0_1 : Option Addr) (c0_1 : Nat) (l0_1 : List (S29)) (A0_2 : Option Addr) (c0_2 : Nat) (l0_2 : List Int) (r : Bool) (w : World) (hr0_1 : Kd.C k29 w A0_1 l0_1.length l0_1) (hc0_1 : l0_1.length ≤ c0_1) (hr0_2 : Kd.C (Kd.int .i64) w A0_2 l0_2.length l0_2) (hc0_2 : l0_2.length ≤ c0_2) (h : pleachlaw19_few.f k a0_0 l0_1 l0_2 = some r) :
    Calls Try.prog 6 #[.agg #[.int .i64 a0_0, .slice A0_1 l0_1.length c0_1, .slice A0_2 l0_2.length c0_2]] w fun e w' => e = .returned (.bool r) ∧ Below w.heap.size w w' := by
  have hu25 := Try.underlying25
  have HR0_1 := Aside0.mk hr0_1
  have HC0_1 := Aside0.mk hc0_1
  clear hr0_1 hc0_1
  have HR0_2 := Aside0.mk hr0_2
  have HC0_2 := Aside0.mk hc0_2
  clear hr0_2 hc0_2
  have HB := Aside0.mk (Below.refl w.heap.size w)
  have H : (pleachlaw19_few.l0 k 0 0 a0_0 l0_1 l0_2) = some r := h
  clear h
  have H' := Aside0.mk H
  clear H
  go_enter Try.func6, Try.ntmps6
  go_wp2_with (first | ((with_reducible refine gate_dst (N := 1) rfl ?_); (try (refine gate_guard (by rfl) ?_; dsimp only)); refine box_event ?hg (N := 1) ?hd (cs := #[.int .i64 a0_0, .slice A0_1 l0_1.length c0_1, .slice A0_2 l0_2.length c0_2]) (t := 25) ?hr ?_; (case hd => rfl); (case hg => rfl); (case hr => first | (go_simp; done) | (go_simp; rfl)); intro zad hg w2 hbox hb; have n0_ := M.upS HB hb; have n1_ := Aside0.mk (hbox); have n2_ := M.upG HB hg; have n3_ := M.upG HB hg; clear HB; have HB := n0_; have zae := n1_; have zaf := n2_; have zag := n3_; clear n0_ n1_ n2_ n3_; clear hb hbox hg))
  repeat (go_quiet (first | ((with_reducible refine gate_dst (N := 1) rfl ?_); (try (refine gate_guard (by rfl) ?_; dsimp only)); refine box_event ?hg (N := 1) ?hd (cs := #[.int .i64 a0_0, .slice A0_1 l0_1.length c0_1, .slice A0_2 l0_2.length c0_2]) (t := 25) ?hr ?_; (case hd => rfl); (case hg => rfl); (case hr => first | (go_simp; done) | (go_simp; rfl)); intro zad hg w2 hbox hb; have n0_ := M.upS HB hb; have n1_ := Aside0.mk (hbox); have n2_ := M.upG HB hg; have n3_ := M.upG HB hg; clear HB; have HB := n0_; have zae := n1_; have zaf := n2_; have zag := n3_; clear n0_ n1_ n2_ n3_; clear hb hbox hg)); try go_wp2_with (first | ((with_reducible refine gate_dst (N := 1) rfl ?_); (try (refine gate_guard (by rfl) ?_; dsimp only)); refine box_event ?hg (N := 1) ?hd (cs := #[.int .i64 a0_0, .slice A0_1 l0_1.length c0_1, .slice A0_2 l0_2.length c0_2]) (t := 25) ?hr ?_; (case hd => rfl); (case hg => rfl); (case hr => first | (go_simp; done) | (go_simp; rfl)); intro zad hg w2 hbox hb; have n0_ := M.upS HB hb; have n1_ := Aside0.mk (hbox); have n2_ := M.upG HB hg; have n3_ := M.upG HB hg; clear HB; have HB := n0_; have zae := n1_; have zaf := n2_; have zag := n3_; clear n0_ n1_ n2_ n3_; clear hb hbox hg)))
  go_loopg [3, 4] k (fun kq v3 v4 w' => ∃ (x3_1 : Int) (x4_1 : Int), v3 = .int .i64 x3_1 ∧ v4 = .int .i64 x4_1 ∧ Aside0 (pleachlaw19_few.l0 kq x3_1 x4_1 a0_0 l0_1 l0_2 = some r) ∧ Aside0 (kq ≤ k) ∧ Aside0 (w'.heap[zad]? = some (.cells #[.int .i64 a0_0, (.slice A0_1 l0_1.length c0_1), (.slice A0_2 l0_2.length c0_2)] 25 (0, 0))) ∧ Aside0 (Below w.heap.size w w'))
  case atStart => exact ⟨(0), (0), (by first | rfl | (simp; done) | (simp [*]; done) | (simp [M.isEmpty_bne]; done)), (by first | rfl | (simp; done) | (simp [*]; done) | (simp [M.isEmpty_bne]; done)), H', ⟨Nat.le_refl _⟩, ⟨by (with_reducible repeat (first | refine blk_drewN ?_ _ | refine blk_drew ?_ | refine blk_alloc ?_ _)); exact zae.out⟩, ⟨M.up HB⟩⟩
  case round =>
    clear H'
    try clear p2
    obtain ⟨x3_1, x4_1, rfl, rfl, HA, HK1, zae, HB⟩ := hrel
    cases gk with
    | zero => exact absurd HA.out (by simp [pleachlaw19_few.l0])
    | succ k1 =>
      have H := HA.out
      clear HA
      simp only [pleachlaw19_few.l0] at H
      by_cases c3 : x4_1 < (l0_1.length : Int)
      · rw [if_pos c3] at H
        have c3b0 : decide (x4_1 < (l0_1.length : Int)) = true := decide_eq_true c3
        clear c3
        by_cases c4 : x4_1 ≤ 20
        · rw [if_pos c4] at H
          have c4b0 : decide (x4_1 ≤ 20) = true := decide_eq_true c4
          clear c4
          by_cases c5 : 0 ≤ x4_1
          · rw [if_pos c5] at H
            have c5b0 : decide (0 ≤ x4_1) = true := decide_eq_true c5
            clear c5
            obtain ⟨ji6, hji6⟩ : ∃ j_ : Int, (mn (((rd_T29 l0_1 x4_1).f0).size : Int) 10000) = j_ := ⟨_, rfl⟩
            replace H : (pleachlaw19_few.l0 k1 (wrap64 (x3_1 + ((ji6) + (mn (((rd_T29 l0_1 x4_1).f1).size : Int) 10000)))) (wrap64 (x4_1 + 1)) a0_0 l0_1 l0_2) = some r := by first | (rw [hji6] at H; exact H) | (simp only [hji6] at H ⊢; exact H)
            have hji6_ : (if 10000 < (((rd_T29 l0_1 x4_1).f0).size : Int) then 10000 else (((rd_T29 l0_1 x4_1).f0).size : Int)) = ji6 := hji6
            obtain ⟨ji7, hji7⟩ : ∃ j_ : Int, (mn (((rd_T29 l0_1 x4_1).f1).size : Int) 10000) = j_ := ⟨_, rfl⟩
            replace H : (pleachlaw19_few.l0 k1 (wrap64 (x3_1 + ((ji6) + (ji7)))) (wrap64 (x4_1 + 1)) a0_0 l0_1 l0_2) = some r := by first | (rw [hji7] at H; exact H) | (simp only [hji7] at H ⊢; exact H)
            have hji7_ : (if 10000 < (((rd_T29 l0_1 x4_1).f1).size : Int) then 10000 else (((rd_T29 l0_1 x4_1).f1).size : Int)) = ji7 := hji7
            have H' := Aside0.mk H
            clear H
            obtain ⟨zah, zai, zaj⟩ := M.bc3 (w := wr) (a := .int .i64 a0_0) (b := .slice A0_1 l0_1.length c0_1) (c := .slice A0_2 l0_2.length c0_2) zae.out
            obtain ⟨zak, zal, zam⟩ := M.bf3 zae
            have p102 : 0 ≤ (x4_1 : Int) := of_decide_eq_true (by first | (with_reducible assumption) | assumption)
            have q102 : x4_1 < (l0_1.length : Int) := of_decide_eq_true (by first | (with_reducible assumption) | assumption)
            obtain ⟨ad102, e102, hx102_0, hx102_1⟩ := at_T29 HR0_1.out x4_1 p102 q102
            cases e102
            replace hx102_0 := (HB.out.cell (World.block_lt_of_cell? w _ hx102_0)).trans hx102_0
            replace hx102_1 := (HB.out.cell (World.block_lt_of_cell? w _ hx102_1)).trans hx102_1
            replace p102 := eq_true p102
            replace q102 := eq_true q102
            have p103 : 0 ≤ (x4_1 : Int) := of_decide_eq_true (by first | (with_reducible assumption) | assumption)
            have q103 : x4_1 < (l0_1.length : Int) := of_decide_eq_true (by first | (with_reducible assumption) | assumption)
            obtain ⟨ad103, e103, hx103_0, hx103_1⟩ := at_T29 HR0_1.out x4_1 p103 q103
            obtain rfl : ad102 = ad103 := (by injection e103)
            replace hx103_0 := (HB.out.cell (World.block_lt_of_cell? w _ hx103_0)).trans hx103_0
            replace hx103_1 := (HB.out.cell (World.block_lt_of_cell? w _ hx103_1)).trans hx103_1
            replace p103 := eq_true p103
            replace q103 := eq_true q103
            go_wp2
            repeat (go_quiet (fail); try go_wp2)
            go_roundg k1
            case measure => have := HK1.out; omega
            case rel => exact ⟨(wrap64 (x3_1 + ((ji6) + (ji7)))), (wrap64 (x4_1 + 1)), (by first | rfl | (simp; done) | (simp only [← hji6, ← hji7] <;> (first | rfl | simp)) | (simp [*]; done)), (by first | rfl | (simp; done) | (simp [*]; done) | (simp [M.isEmpty_bne]; done)), H', ⟨by have := HK1.out; omega⟩, ⟨by (with_reducible repeat (first | refine blk_drewN ?_ _ | refine blk_drew ?_ | refine blk_alloc ?_ _)); exact zae.out⟩, ⟨M.up HB⟩⟩
          · rw [if_neg c5] at H
            exact absurd H (by simp)
        · rw [if_neg c4] at H
          have c4b0 : decide (x4_1 ≤ 20) = false := decide_eq_false c4
          clear c4
          by_cases c9 : (l0_1.length : Int) ≤ 20
          · rw [if_pos c9] at H
            have c9b0 : decide ((l0_1.length : Int) ≤ 20) = true := decide_eq_true c9
            have c9b1 : decide (l0_1.length ≤ 20) = true := decide_eq_true (by omega)
            clear c9
            by_cases c10 : (l0_2.length : Int) ≤ 20
            · rw [if_pos c10] at H
              have c10b0 : decide ((l0_2.length : Int) ≤ 20) = true := decide_eq_true c10
              have c10b1 : decide (l0_2.length ≤ 20) = true := decide_eq_true (by omega)
              clear c10
              obtain rfl := Option.some.inj H
              obtain ⟨zan, zao, zap⟩ := M.bc3 (w := wr) (a := .int .i64 a0_0) (b := .slice A0_1 l0_1.length c0_1) (c := .slice A0_2 l0_2.length c0_2) zae.out
              obtain ⟨zaq, zar, zas⟩ := M.bf3 zae
              go_wp2
              repeat (go_quiet (fail); try go_wp2)
              go_ret
              exact M.fin (M.up HB)
            · rw [if_neg c10] at H
              have c10b0 : decide ((l0_2.length : Int) ≤ 20) = false := decide_eq_false c10
              have c10b1 : decide (l0_2.length ≤ 20) = false := decide_eq_false (by omega)
              clear c10
              obtain rfl := Option.some.inj H
              obtain ⟨zat, zau, zav⟩ := M.bc3 (w := wr) (a := .int .i64 a0_0) (b := .slice A0_1 l0_1.length c0_1) (c := .slice A0_2 l0_2.length c0_2) zae.out
              obtain ⟨zaw, zax, zay⟩ := M.bf3 zae
              go_wp2
              repeat (go_quiet (fail); try go_wp2)
              go_ret
              exact M.fin (M.up HB)
          · rw [if_neg c9] at H
            have c9b0 : decide ((l0_1.length : Int) ≤ 20) = false := decide_eq_false c9
            have c9b1 : decide (l0_1.length ≤ 20) = false := decide_eq_false (by omega)
            clear c9
            obtain rfl := Option.some.inj H
            obtain ⟨zaz, zaA, zaB⟩ := M.bc3 (w := wr) (a := .int .i64 a0_0) (b := .slice A0_1 l0_1.length c0_1) (c := .slice A0_2 l0_2.length c0_2) zae.out
            obtain ⟨zaC, zaD, zaE⟩ := M.bf3 zae
            go_wp2
            repeat (go_quiet (fail); try go_wp2)
            go_ret
            exact M.fin (M.up HB)
      · rw [if_neg c3] at H
        have c3b0 : decide (x4_1 < (l0_1.length : Int)) = false := decide_eq_false c3
        clear c3
        by_cases c14 : (l0_1.length : Int) ≤ 20
        · rw [if_pos c14] at H
          have c14b0 : decide ((l0_1.length : Int) ≤ 20) = true := decide_eq_true c14
          have c14b1 : decide (l0_1.length ≤ 20) = true := decide_eq_true (by omega)
          clear c14
          by_cases c15 : (l0_2.length : Int) ≤ 20
          · rw [if_pos c15] at H
            have c15b0 : decide ((l0_2.length : Int) ≤ 20) = true := decide_eq_true c15
            have c15b1 : decide (l0_2.length ≤ 20) = true := decide_eq_true (by omega)
            clear c15
            obtain rfl := Option.some.inj H
            obtain ⟨zaF, zaG, zaH⟩ := M.bc3 (w := wr) (a := .int .i64 a0_0) (b := .slice A0_1 l0_1.length c0_1) (c := .slice A0_2 l0_2.length c0_2) zae.out
            obtain ⟨zaI, zaJ, zaK⟩ := M.bf3 zae
            go_wp2
            repeat (go_quiet (fail); try go_wp2)
            go_ret
            exact M.fin (M.up HB)
          · rw [if_neg c15] at H
            have c15b0 : decide ((l0_2.length : Int) ≤ 20) = false := decide_eq_false c15
            have c15b1 : decide (l0_2.length ≤ 20) = false := decide_eq_false (by omega)
            clear c15
            obtain rfl := Option.some.inj H
            obtain ⟨zaL, zaM, zaN⟩ := M.bc3 (w := wr) (a := .int .i64 a0_0) (b := .slice A0_1 l0_1.length c0_1) (c := .slice A0_2 l0_2.length c0_2) zae.out
            obtain ⟨zaO, zaP, zaQ⟩ := M.bf3 zae
            go_wp2
            repeat (go_quiet (fail); try go_wp2)
            go_ret
            exact M.fin (M.up HB)
        · rw [if_neg c14] at H
          have c14b0 : decide ((l0_1.length : Int) ≤ 20) = false := decide_eq_false c14
          have c14b1 : decide (l0_1.length ≤ 20) = false := decide_eq_false (by omega)
          clear c14
          obtain rfl := Option.some.inj H
          obtain ⟨zaR, zaS, zaT⟩ := M.bc3 (w := wr) (a := .int .i64 a0_0) (b := .slice A0_1 l0_1.length c0_1) (c := .slice A0_2 l0_2.length c0_2) zae.out
          obtain ⟨zaU, zaV, zaW⟩ := M.bf3 zae
          go_wp2
          repeat (go_quiet (fail); try go_wp2)
          go_ret
          exact M.fin (M.up HB)

/-! ### chunk_counted_p: function 36 -/
def chunk_counted_p.l0 : Nat → List Int → Int → Int → Int → List (S29) → List Int → Option (Bool)
  | 0, _, _, _, _, _, _ => none
  | k + 1, x13, x14, x15, zaX, zaY, zaZ => if x15 < x14 then (if 0 ≤ x15 then (if x15 < (x13.length : Int) then (if (rd x13 x15) < 1 then (some false) else (if (rd x13 x15) > 2147483648 then (some false) else (chunk_counted_p.l0 k x13 x14 (wrap64 (x15 + 1)) zaX zaY zaZ))) else (none)) else (none)) else (if (zaZ.length : Int) = (zaY.length : Int) then (some (decide ((zaY.length : Int) > 0))) else (some false))
def chunk_counted_p.f (k : Nat) (a0_0 : Int) (l0_1 : List (S29)) (l0_2 : List Int) : Option (Bool) := if a0_0 = 0 then (some ((l0_2.length : Int) == 0)) else (chunk_counted_p.l0 k l0_2 (l0_2.length : Int) 0 a0_0 l0_1 l0_2)
theorem chunk_counted_p.mono_l : ∀ k, (∀ y0 y1 y2 y3 y4 y5, LeO (chunk_counted_p.l0 k y0 y1 y2 y3 y4 y5) (chunk_counted_p.l0 (k + 1) y0 y1 y2 y3 y4 y5))
  | 0 => fun _ _ _ _ _ _ r h => by simp [chunk_counted_p.l0] at h
  | k + 1 => by
    have ih0 := chunk_counted_p.mono_l k
    · intro y0 y1 y2 y3 y4 y5
      unfold chunk_counted_p.l0
      repeat' first
      | (with_reducible exact ih0 _ _ _ _ _ _)
      | (with_reducible exact LeO.refl _)
      | (with_reducible exact LeO.none _)
      | (with_reducible refine LeO.ite ?_ ?_)
      | (with_reducible refine LeO.bind ?_ (fun _ => ?_))
      | exact ih0 _ _ _ _ _ _
      | exact LeO.none _
      | refine LeO.ite ?_ ?_
      | refine LeO.bind ?_ (fun _ => ?_)
theorem chunk_counted_p.mono : ∀ a0 a1 a2 k, LeO (chunk_counted_p.f k a0 a1 a2) (chunk_counted_p.f (k + 1) a0 a1 a2) := by
  intro a0 a1 a2 k
  have ih0 := chunk_counted_p.mono_l k
  unfold chunk_counted_p.f
  repeat' first
      | (with_reducible exact ih0 _ _ _ _ _ _)
      | (with_reducible exact LeO.refl _)
      | (with_reducible exact LeO.none _)
      | (with_reducible refine LeO.ite ?_ ?_)
      | (with_reducible refine LeO.bind ?_ (fun _ => ?_))
      | exact ih0 _ _ _ _ _ _
      | exact LeO.none _
      | refine LeO.ite ?_ ?_
      | refine LeO.bind ?_ (fun _ => ?_)
set_option maxHeartbeats 8000000 in
set_option maxRecDepth 100000 in
theorem chunk_counted_p.calls (k : Nat) (a0_0 : Int) (A0_1 : Option Addr) (c0_1 : Nat) (l0_1 : List (S29)) (A0_2 : Option Addr) (c0_2 : Nat) (l0_2 : List Int) (r : Bool) (w : World) (hr0_1 : Kd.C k29 w A0_1 l0_1.length l0_1) (hc0_1 : l0_1.length ≤ c0_1) (hr0_2 : Kd.C (Kd.int .i64) w A0_2 l0_2.length l0_2) (hc0_2 : l0_2.length ≤ c0_2) (h : chunk_counted_p.f k a0_0 l0_1 l0_2 = some r) :
    Calls Try.prog 36 #[.agg #[.int .i64 a0_0, .slice A0_1 l0_1.length c0_1, .slice A0_2 l0_2.length c0_2]] w fun e w' => e = .returned (.bool r) ∧ Below w.heap.size w w' := by
  have hu25 := Try.underlying25
  have HR0_1 := Aside0.mk hr0_1
  have HC0_1 := Aside0.mk hc0_1
  clear hr0_1 hc0_1
  have HR0_2 := Aside0.mk hr0_2
  have HC0_2 := Aside0.mk hc0_2
  clear hr0_2 hc0_2
  have HB := Aside0.mk (Below.refl w.heap.size w)
  have H : (if a0_0 = 0 then (some ((l0_2.length : Int) == 0)) else (chunk_counted_p.l0 k l0_2 (l0_2.length : Int) 0 a0_0 l0_1 l0_2)) = some r := h
  clear h
  by_cases c2 : a0_0 = 0
  · rw [if_pos c2] at H
    have c2b0 : (a0_0 == 0) = true := beq_iff_eq.mpr c2
    have c2b1 : (a0_0 != 0) = false := bne_eq_false_iff_eq.mpr c2
    clear c2
    obtain rfl := Option.some.inj H
    go_enter Try.func36, Try.ntmps36
    go_wp2_with (first | ((with_reducible refine gate_dst (N := 1) rfl ?_); (try (refine gate_guard (by rfl) ?_; dsimp only)); refine box_event ?hg (N := 1) ?hd (cs := #[.int .i64 a0_0, .slice A0_1 l0_1.length c0_1, .slice A0_2 l0_2.length c0_2]) (t := 25) ?hr ?_; (case hd => rfl); (case hg => rfl); (case hr => first | (go_simp; done) | (go_simp; rfl)); intro za0 hg w3 hbox hb; have n0_ := M.upS HB hb; have n1_ := Aside0.mk (hbox); have n2_ := M.upG HB hg; have n3_ := M.upG HB hg; clear HB; have HB := n0_; have za1 := n1_; have za2 := n2_; have za3 := n3_; clear n0_ n1_ n2_ n3_; clear hb hbox hg; obtain ⟨za4, za5, za6⟩ := M.bc3 (w := w3) (a := .int .i64 a0_0) (b := .slice A0_1 l0_1.length c0_1) (c := .slice A0_2 l0_2.length c0_2) za1.out; obtain ⟨za7, za8, za9⟩ := M.bf3 za1))
    go_ret
    exact M.fin (M.up HB)
  · rw [if_neg c2] at H
    have c2b0 : (a0_0 == 0) = false := beq_eq_false_iff_ne.mpr c2
    have c2b1 : (a0_0 != 0) = true := bne_iff_ne.mpr c2
    have H' := Aside0.mk H
    clear H
    go_enter Try.func36, Try.ntmps36
    go_wp2_with (first | ((with_reducible refine gate_dst (N := 1) rfl ?_); (try (refine gate_guard (by rfl) ?_; dsimp only)); refine box_event ?hg (N := 1) ?hd (cs := #[.int .i64 a0_0, .slice A0_1 l0_1.length c0_1, .slice A0_2 l0_2.length c0_2]) (t := 25) ?hr ?_; (case hd => rfl); (case hg => rfl); (case hr => first | (go_simp; done) | (go_simp; rfl)); intro za0 hg w5 hbox hb; have n0_ := M.upS HB hb; have n1_ := Aside0.mk (hbox); have n2_ := M.upG HB hg; have n3_ := M.upG HB hg; clear HB; have HB := n0_; have za1 := n1_; have za2 := n2_; have za3 := n3_; clear n0_ n1_ n2_ n3_; clear hb hbox hg; obtain ⟨zba, zbb, zbc⟩ := M.bc3 (w := w5) (a := .int .i64 a0_0) (b := .slice A0_1 l0_1.length c0_1) (c := .slice A0_2 l0_2.length c0_2) za1.out; obtain ⟨zbd, zbe, zbf⟩ := M.bf3 za1))
    go_loopg [15] k (fun kq v15 w' => ∃ (x15_1 : Int), v15 = .int .i64 x15_1 ∧ Aside0 (chunk_counted_p.l0 kq l0_2 (l0_2.length : Int) x15_1 a0_0 l0_1 l0_2 = some r) ∧ Aside0 (kq ≤ k) ∧ Aside0 (w'.heap[za0]? = some (.cells #[.int .i64 a0_0, (.slice A0_1 l0_1.length c0_1), (.slice A0_2 l0_2.length c0_2)] 25 (0, 0))) ∧ Aside0 (Below w.heap.size w w'))
    case atStart => exact ⟨(0), (by first | rfl | (simp; done) | (simp [*]; done) | (simp [M.isEmpty_bne]; done)), H', ⟨Nat.le_refl _⟩, ⟨by (with_reducible repeat (first | refine blk_drewN ?_ _ | refine blk_drew ?_ | refine blk_alloc ?_ _)); exact za1.out⟩, ⟨M.up HB⟩⟩
    case round =>
      clear H'
      try clear c2
      try clear c2b0
      try clear c2b1
      try clear p2
      try clear c3
      try clear za4
      try clear za5
      try clear za6
      try clear zba
      try clear zbb
      try clear zbc
      try clear za7
      try clear za8
      try clear za9
      try clear zbd
      try clear zbe
      try clear zbf
      obtain ⟨x15_1, rfl, HA, HK1, za1, HB⟩ := hrel
      cases gk with
      | zero => exact absurd HA.out (by simp [chunk_counted_p.l0])
      | succ k1 =>
        have H := HA.out
        clear HA
        simp only [chunk_counted_p.l0] at H
        by_cases c7 : x15_1 < (l0_2.length : Int)
        · rw [if_pos c7] at H
          have c7b0 : decide (x15_1 < (l0_2.length : Int)) = true := decide_eq_true c7
          clear c7
          by_cases c8 : 0 ≤ x15_1
          · rw [if_pos c8] at H
            have c8b0 : decide (0 ≤ x15_1) = true := decide_eq_true c8
            clear c8
            by_cases c9 : x15_1 < (l0_2.length : Int)
            · rw [if_pos c9] at H
              have c9b0 : decide (x15_1 < (l0_2.length : Int)) = true := decide_eq_true c9
              clear c9
              by_cases c10 : (rd l0_2 x15_1) < 1
              · rw [if_pos c10] at H
                have c10b0 : decide ((rd l0_2 x15_1) < 1) = true := decide_eq_true c10
                clear c10
                obtain rfl := Option.some.inj H
                have p105 : 0 ≤ (x15_1 : Int) := of_decide_eq_true (by first | (with_reducible assumption) | assumption)
                have q105 : x15_1 < (l0_2.length : Int) := of_decide_eq_true (by first | (with_reducible assumption) | assumption)
                obtain ⟨ad105, e105, hx105_0⟩ := Kd.at_int HR0_2.out x15_1 p105 q105
                cases e105
                replace hx105_0 := (HB.out.cell (World.block_lt_of_cell? w _ hx105_0)).trans hx105_0
                replace p105 := eq_true p105
                replace q105 := eq_true q105
                go_wp2
                go_ret
                exact M.fin (M.up HB)
              · rw [if_neg c10] at H
                have c10b0 : decide ((rd l0_2 x15_1) < 1) = false := decide_eq_false c10
                clear c10
                by_cases c11 : (rd l0_2 x15_1) > 2147483648
                · rw [if_pos c11] at H
                  have c11b0 : decide (2147483648 < (rd l0_2 x15_1)) = true := decide_eq_true c11
                  clear c11
                  obtain rfl := Option.some.inj H
                  have p105 : 0 ≤ (x15_1 : Int) := of_decide_eq_true (by first | (with_reducible assumption) | assumption)
                  have q105 : x15_1 < (l0_2.length : Int) := of_decide_eq_true (by first | (with_reducible assumption) | assumption)
                  obtain ⟨ad105, e105, hx105_0⟩ := Kd.at_int HR0_2.out x15_1 p105 q105
                  cases e105
                  replace hx105_0 := (HB.out.cell (World.block_lt_of_cell? w _ hx105_0)).trans hx105_0
                  replace p105 := eq_true p105
                  replace q105 := eq_true q105
                  go_wp2
                  go_ret
                  exact M.fin (M.up HB)
                · rw [if_neg c11] at H
                  have c11b0 : decide (2147483648 < (rd l0_2 x15_1)) = false := decide_eq_false c11
                  clear c11
                  have H' := Aside0.mk H
                  clear H
                  have p105 : 0 ≤ (x15_1 : Int) := of_decide_eq_true (by first | (with_reducible assumption) | assumption)
                  have q105 : x15_1 < (l0_2.length : Int) := of_decide_eq_true (by first | (with_reducible assumption) | assumption)
                  obtain ⟨ad105, e105, hx105_0⟩ := Kd.at_int HR0_2.out x15_1 p105 q105
                  cases e105
                  replace hx105_0 := (HB.out.cell (World.block_lt_of_cell? w _ hx105_0)).trans hx105_0
                  replace p105 := eq_true p105
                  replace q105 := eq_true q105
                  go_wp2
                  go_roundg k1
                  case measure => have := HK1.out; omega
                  case rel => exact ⟨(wrap64 (x15_1 + 1)), (by first | rfl | (simp; done) | (simp [*]; done) | (simp [M.isEmpty_bne]; done)), H', ⟨by have := HK1.out; omega⟩, ⟨by (with_reducible repeat (first | refine blk_drewN ?_ _ | refine blk_drew ?_ | refine blk_alloc ?_ _)); exact za1.out⟩, ⟨M.up HB⟩⟩
            · rw [if_neg c9] at H
              exact absurd H (by simp)
          · rw [if_neg c8] at H
            exact absurd H (by simp)
        · rw [if_neg c7] at H
          have c7b0 : decide (x15_1 < (l0_2.length : Int)) = false := decide_eq_false c7
          clear c7
          by_cases c12 : (l0_2.length : Int) = (l0_1.length : Int)
          · rw [if_pos c12] at H
            have c12b0 : ((l0_2.length : Int) == (l0_1.length : Int)) = true := beq_iff_eq.mpr c12
            have c12b1 : ((l0_2.length : Int) != (l0_1.length : Int)) = false := bne_eq_false_iff_eq.mpr c12
            have c12b2 : (l0_2.length == l0_1.length) = true := by first | simpa using c12 | (simp at c12 ⊢; omega)
            clear c12
            obtain rfl := Option.some.inj H
            obtain ⟨zaz, zaA, zaB⟩ := M.bc3 (w := wr) (a := .int .i64 a0_0) (b := .slice A0_1 l0_1.length c0_1) (c := .slice A0_2 l0_2.length c0_2) za1.out
            obtain ⟨zaC, zaD, zaE⟩ := M.bf3 za1
            go_wp2
            go_ret
            exact M.fin (M.up HB)
          · rw [if_neg c12] at H
            have c12b0 : ((l0_2.length : Int) == (l0_1.length : Int)) = false := beq_eq_false_iff_ne.mpr c12
            have c12b1 : ((l0_2.length : Int) != (l0_1.length : Int)) = true := bne_iff_ne.mpr c12
            have c12b2 : (l0_2.length == l0_1.length) = false := by first | simpa using c12 | (simp at c12 ⊢; omega)
            obtain rfl := Option.some.inj H
            obtain ⟨zbg, zbh, zbi⟩ := M.bc3 (w := wr) (a := .int .i64 a0_0) (b := .slice A0_1 l0_1.length c0_1) (c := .slice A0_2 l0_2.length c0_2) za1.out
            obtain ⟨zbj, zbk, zbl⟩ := M.bf3 za1
            go_wp2
            go_ret
            exact M.fin (M.up HB)

-- this session's own plain form
/-- May an entry stand in a chunk? -/
def chunk_fits.ok (lv : Int) (k v : ByteArray) : Bool := decide (0 < k.size ∧ k.size ≤ 64 ∧ (if lv > 0 then v.size = 32 else v.size ≤ 2048))
/-- One behind the other: the text of a chunk, the number of what is wrong with one, what a chunk's bytes read as. -/
def chunk_fits.counted (lv : Int) (es : List S29) (cs : List Int) : Bool := if lv = 0 then decide (cs.length = 0) else (cs.all fun n => decide (1 ≤ n ∧ n ≤ 2147483648)) && decide (cs.length = es.length ∧ 0 < es.length)
def chunk_fits.go (lv : Int) : Option ByteArray → List S29 → Int
  | _, [] => 0
  | prev, e :: l => if chunk_fits.ok lv e.f0 e.f1 = true then (match prev with | some p => if Op.bytesLess p.toList e.f0.toList = true then chunk_fits.go lv (some e.f0) l else 4 | none => chunk_fits.go lv (some e.f0) l) else 2
def chunk_fits.wrong (lv : Int) (es : List S29) (cs : List Int) : Int := if lv < 0 ∨ 40 < lv ∨ 8 < es.length ∨ chunk_fits.counted lv es cs = false then 2 else chunk_fits.go lv none es
def chunk_fits.enc (lv : Int) : List S29 → List Int → List UInt8
  | [], _ => []
  | e :: l, cs => (M.vb e.f0.size ++ M.bs e.f0) ++ (if lv > 0 then M.bs e.f1 ++ M.vb (cs.headD 0).toNat else M.vb e.f1.size ++ M.bs e.f1) ++ chunk_fits.enc lv l cs.tail
def chunk_fits.text (lv : Int) (es : List S29) (cs : List Int) : List UInt8 := ((if lv > 0 then 73 :: M.vb lv.toNat else [76]) ++ M.vb es.length) ++ chunk_fits.enc lv es cs
def chunk_fits.read (s : ByteArray) (lv : Int) : Nat → Int → Int → List S29 × List Int × Int × Int
  | 0, p, er => ([], [], p, er)
  | n + 1, p, er =>
    if lv > 0 then
      (⟨(M.xtext s p er 64).1, (M.xfix s (M.xtext s p er 64).2.1 (M.xtext s p er 64).2.2 32).1⟩ :: (chunk_fits.read s lv n (M.xnum s (M.xfix s (M.xtext s p er 64).2.1 (M.xtext s p er 64).2.2 32).2.1 (M.xfix s (M.xtext s p er 64).2.1 (M.xtext s p er 64).2.2 32).2.2 2147483648).2.1 (M.xnum s (M.xfix s (M.xtext s p er 64).2.1 (M.xtext s p er 64).2.2 32).2.1 (M.xfix s (M.xtext s p er 64).2.1 (M.xtext s p er 64).2.2 32).2.2 2147483648).2.2).1,
       (M.xnum s (M.xfix s (M.xtext s p er 64).2.1 (M.xtext s p er 64).2.2 32).2.1 (M.xfix s (M.xtext s p er 64).2.1 (M.xtext s p er 64).2.2 32).2.2 2147483648).1 :: (chunk_fits.read s lv n (M.xnum s (M.xfix s (M.xtext s p er 64).2.1 (M.xtext s p er 64).2.2 32).2.1 (M.xfix s (M.xtext s p er 64).2.1 (M.xtext s p er 64).2.2 32).2.2 2147483648).2.1 (M.xnum s (M.xfix s (M.xtext s p er 64).2.1 (M.xtext s p er 64).2.2 32).2.1 (M.xfix s (M.xtext s p er 64).2.1 (M.xtext s p er 64).2.2 32).2.2 2147483648).2.2).2.1,
       (chunk_fits.read s lv n (M.xnum s (M.xfix s (M.xtext s p er 64).2.1 (M.xtext s p er 64).2.2 32).2.1 (M.xfix s (M.xtext s p er 64).2.1 (M.xtext s p er 64).2.2 32).2.2 2147483648).2.1 (M.xnum s (M.xfix s (M.xtext s p er 64).2.1 (M.xtext s p er 64).2.2 32).2.1 (M.xfix s (M.xtext s p er 64).2.1 (M.xtext s p er 64).2.2 32).2.2 2147483648).2.2).2.2)
    else
      (⟨(M.xtext s p er 64).1, (M.xtext s (M.xtext s p er 64).2.1 (M.xtext s p er 64).2.2 2048).1⟩ :: (chunk_fits.read s lv n (M.xtext s (M.xtext s p er 64).2.1 (M.xtext s p er 64).2.2 2048).2.1 (M.xtext s (M.xtext s p er 64).2.1 (M.xtext s p er 64).2.2 2048).2.2).1,
       (chunk_fits.read s lv n (M.xtext s (M.xtext s p er 64).2.1 (M.xtext s p er 64).2.2 2048).2.1 (M.xtext s (M.xtext s p er 64).2.1 (M.xtext s p er 64).2.2 2048).2.2).2)
theorem chunk_fits.enc_len (lv : Int) : ∀ (es : List S29) (cs : List Int), (∀ e ∈ es, chunk_fits.ok lv e.f0 e.f1 = true) → (∀ n ∈ cs, n ≤ 2147483648) → (chunk_fits.enc lv es cs).length ≤ es.length * 2200
  | [], _, _, _ => Nat.zero_le _
  | e :: l, cs, h, hc => by
    have ih := chunk_fits.enc_len lv l cs.tail (fun x hx => h x (List.mem_cons_of_mem _ hx)) (fun n hn => hc n (List.mem_of_mem_tail hn))
    have he := h e List.mem_cons_self
    unfold chunk_fits.ok at he
    have he := of_decide_eq_true he
    have l1 := M.vb_le e.f0.size (by omega)
    have hh : cs.headD 0 ≤ 2147483648 := by
      cases cs with
      | nil => simp
      | cons a b => exact hc a List.mem_cons_self
    have l2 := M.vb_le (cs.headD 0).toNat (by omega)
    have b0 := M.bs_length e.f0
    have b1 := M.bs_length e.f1
    simp only [chunk_fits.enc, List.length_append, List.length_cons]
    by_cases hl : lv > 0
    · rw [if_pos hl] at he ⊢
      rw [List.length_append]; omega
    · rw [if_neg hl] at he ⊢
      have l3 := M.vb_le e.f1.size (by omega)
      rw [List.length_append]; omega
theorem chunk_fits.go_ok (lv : Int) : ∀ (es : List S29) (prev : Option ByteArray), chunk_fits.go lv prev es = 0 → ∀ e ∈ es, chunk_fits.ok lv e.f0 e.f1 = true
  | [], _, _, _, hx => absurd hx List.not_mem_nil
  | e :: l, prev, h, x, hx => by
    unfold chunk_fits.go at h
    by_cases hk : chunk_fits.ok lv e.f0 e.f1 = true
    · rw [if_pos hk] at h
      rcases List.mem_cons.1 hx with rfl | hx
      · exact hk
      · cases prev with
        | none => exact chunk_fits.go_ok lv l _ h x hx
        | some p =>
          simp only at h
          split at h
          · exact chunk_fits.go_ok lv l _ h x hx
          · cases h
    · rw [if_neg hk] at h; cases h
def chunk_counted.f (a0_0 : Int) (l0_1 : List S29) (l0_2 : List Int) : Option Bool := if l0_2.length ≤ 9223372036854775806 ∧ l0_1.length ≤ 9223372036854775806 then some (chunk_fits.counted a0_0 l0_1 l0_2) else none
theorem chunk_counted.loop (lv : Int) (es : List S29) (cs : List Int) (hc : cs.length ≤ 9223372036854775806) (d : Nat) : ∀ i : Nat, i + d = cs.length →
    chunk_counted_p.l0 (d + 1) cs (cs.length : Int) (i : Int) lv es cs = some (((cs.drop i).all fun n => decide (1 ≤ n ∧ n ≤ 2147483648)) && decide (cs.length = es.length ∧ 0 < es.length)) := by
  induction d with
  | zero =>
    intro i hi
    simp only [chunk_counted_p.l0]
    rw [if_neg (by omega), List.drop_of_length_le (by omega)]
    by_cases h : cs.length = es.length
    · rw [if_pos (by omega)]
      congr 1
      simp only [List.all_nil, Bool.true_and]
      apply decide_eq_decide.2; omega
    · rw [if_neg (by omega)]
      congr 1
      simp only [List.all_nil, Bool.true_and]
      exact (decide_eq_false (fun z => h z.1)).symm
  | succ d ih =>
    intro i hi
    have hlt : i < cs.length := by omega
    have hrd : rd cs (i : Int) = cs[i] := by simp [rd, List.getD, hlt]
    rw [chunk_counted_p.l0, if_pos (by omega), if_pos (by omega), if_pos (by omega), hrd, M.wrap64_id (by omega) (by omega), show (i : Int) + 1 = ((i + 1 : Nat) : Int) from by omega, ih (i + 1) (by omega), List.drop_eq_getElem_cons hlt, List.all_cons]
    generalize cs[i] = n
    by_cases h0 : n < 1
    · rw [if_pos h0, show decide (1 ≤ n ∧ n ≤ 2147483648) = false from decide_eq_false (fun z => by omega)]; rfl
    · rw [if_neg h0]
      by_cases h1 : n > 2147483648
      · rw [if_pos h1, show decide (1 ≤ n ∧ n ≤ 2147483648) = false from decide_eq_false (fun z => by omega)]; rfl
      · rw [if_neg h1, show decide (1 ≤ n ∧ n ≤ 2147483648) = true from decide_eq_true ⟨by omega, by omega⟩, Bool.true_and]
theorem chunk_counted.ev (lv : Int) (es : List S29) (cs : List Int) (r : Bool) (h : chunk_counted.f lv es cs = some r) : ∃ k, chunk_counted_p.f k lv es cs = some r := by
  unfold chunk_counted.f at h
  split at h
  case isFalse => cases h
  case isTrue hh =>
    refine ⟨cs.length + 1, ?_⟩
    rw [← h]
    unfold chunk_counted_p.f chunk_fits.counted
    by_cases h0 : lv = 0
    · rw [if_pos h0, if_pos h0]
      congr 1
      by_cases hz : cs.length = 0
      · rw [decide_eq_true hz]; simp [hz]
      · rw [decide_eq_false hz]; simp; intro e; rw [e] at hz; exact hz rfl
    · rw [if_neg h0, if_neg h0]
      have := chunk_counted.loop lv es cs hh.1 cs.length 0 (by omega)
      rw [List.drop_zero] at this
      exact this
theorem chunk_counted.calls (a0_0 : Int) (A0_1 : Option Addr) (c0_1 : Nat) (l0_1 : List (S29)) (A0_2 : Option Addr) (c0_2 : Nat) (l0_2 : List Int) (r : Bool) (w : World) (hr0_1 : Kd.C k29 w A0_1 l0_1.length l0_1) (hc0_1 : l0_1.length ≤ c0_1) (hr0_2 : Kd.C (Kd.int .i64) w A0_2 l0_2.length l0_2) (hc0_2 : l0_2.length ≤ c0_2) (h : chunk_counted.f a0_0 l0_1 l0_2 = some r) :
    Calls Try.prog 36 #[.agg #[.int .i64 a0_0, .slice A0_1 l0_1.length c0_1, .slice A0_2 l0_2.length c0_2]] w fun e w' => e = .returned (.bool r) ∧ Below w.heap.size w w' := by
  obtain ⟨k, hk⟩ := chunk_counted.ev _ _ _ _ h
  exact chunk_counted_p.calls (k := k) (w := w) (h := hk) (hr0_1 := hr0_1) (hc0_1 := hc0_1) (hr0_2 := hr0_2) (hc0_2 := hc0_2)

/-! ### chunk_fits_p: function 37 -/
def chunk_fits_p.j0 : Nat → Int → Bool → ByteArray → ByteArray → Option (Bool)
  | 0, _, _, _, _ => none
  | k + 1, x0, x13, zbm, zbn => if x13 = true then (some false) else (if x0 > 0 then (some ((zbn.size : Int) == 32)) else (some (decide ((zbn.size : Int) ≤ 2048))))
def chunk_fits_p.f (k : Nat) (a0 : Int) (a1_0 : ByteArray) (a1_1 : ByteArray) : Option (Bool) := if a1_0.toList = ([] : List UInt8) then (chunk_fits_p.j0 k a0 true a1_0 a1_1) else (chunk_fits_p.j0 k a0 (decide ((a1_0.size : Int) > 64)) a1_0 a1_1)
theorem chunk_fits_p.mono_l : ∀ k, (∀ y0 y1 y2 y3, LeO (chunk_fits_p.j0 k y0 y1 y2 y3) (chunk_fits_p.j0 (k + 1) y0 y1 y2 y3))
  | 0 => fun _ _ _ _ r h => by simp [chunk_fits_p.j0] at h
  | k + 1 => by
    have ih0 := chunk_fits_p.mono_l k
    · intro y0 y1 y2 y3
      unfold chunk_fits_p.j0
      repeat' first
      | (with_reducible exact ih0 _ _ _ _)
      | (with_reducible exact LeO.refl _)
      | (with_reducible exact LeO.none _)
      | (with_reducible refine LeO.ite ?_ ?_)
      | (with_reducible refine LeO.bind ?_ (fun _ => ?_))
      | exact ih0 _ _ _ _
      | exact LeO.none _
      | refine LeO.ite ?_ ?_
      | refine LeO.bind ?_ (fun _ => ?_)
theorem chunk_fits_p.mono : ∀ a0 a1 a2 k, LeO (chunk_fits_p.f k a0 a1 a2) (chunk_fits_p.f (k + 1) a0 a1 a2) := by
  intro a0 a1 a2 k
  have ih0 := chunk_fits_p.mono_l k
  unfold chunk_fits_p.f
  repeat' first
      | (with_reducible exact ih0 _ _ _ _)
      | (with_reducible exact LeO.refl _)
      | (with_reducible exact LeO.none _)
      | (with_reducible refine LeO.ite ?_ ?_)
      | (with_reducible refine LeO.bind ?_ (fun _ => ?_))
      | exact ih0 _ _ _ _
      | exact LeO.none _
      | refine LeO.ite ?_ ?_
      | refine LeO.bind ?_ (fun _ => ?_)
set_option maxHeartbeats 8000000 in
set_option maxRecDepth 100000 in
theorem chunk_fits_p.calls (k : Nat) (a0 : Int) (a1_0 : ByteArray) (a1_1 : ByteArray) (r : Bool) (w : World) (h : chunk_fits_p.f k a0 a1_0 a1_1 = some r) :
    Calls Try.prog 37 #[.int .i64 a0, .agg #[.string a1_0, .string a1_1]] w fun e w' => e = .returned (.bool r) ∧ Below w.heap.size w w' := by
  have hu29 := Try.underlying29
  have HB := Aside0.mk (Below.refl w.heap.size w)
  have H : (if a1_0.toList = ([] : List UInt8) then (chunk_fits_p.j0 k a0 true a1_0 a1_1) else (chunk_fits_p.j0 k a0 (decide ((a1_0.size : Int) > 64)) a1_0 a1_1)) = some r := h
  clear h
  have HC3 := Aside0.mk H
  clear H
  go_enter Try.func37, Try.ntmps37
  go_upto_region 1 with (first | ((with_reducible refine gate_dst (N := 3) rfl ?_); (try (refine gate_guard (by rfl) ?_; dsimp only)); refine box_event ?hg (N := 3) ?hd (cs := #[.string a1_0, .string a1_1]) (t := 29) ?hr ?_; (case hd => rfl); (case hg => rfl); (case hr => first | (go_simp; done) | (go_simp; rfl)); intro zbo hg w4 hbox hb; have n0_ := M.upS HB hb; have n1_ := Aside0.mk (hbox); have n2_ := M.upG HB hg; have n3_ := M.upG HB hg; clear HB; have HB := n0_; have zbp := n1_; have zbq := n2_; have zbr := n3_; clear n0_ n1_ n2_ n3_; clear hb hbox hg))
  (try simp only [Act.put, List.setIfInBounds_toArray, List.set_cons_zero, List.set_cons_succ])
  go_cut [13] (fun v13 wc => ∃ (kq : Nat) (x13_2 : Bool), v13 = .bool x13_2 ∧ Aside0 (chunk_fits_p.j0 kq a0 x13_2 a1_0 a1_1 = some r) ∧ Aside0 (kq ≤ k) ∧ Aside0 (wc.heap[zbo]? = some (.cells #[.string a1_0, .string a1_1] 29 (0, 0))) ∧ Aside0 (Below w.heap.size w wc))
  case first =>
    have H := HC3.out
    clear HC3
    by_cases c5 : a1_0.toList = ([] : List UInt8)
    · rw [if_pos c5] at H
      have c5b0 : (a1_0.toList == ([] : List UInt8)) = true := beq_iff_eq.mpr c5
      have c5b1 : (a1_0.toList != ([] : List UInt8)) = false := bne_eq_false_iff_eq.mpr c5
      clear c5
      (first | rw [c5b0] | (simp only [i64_w, i32_w]; rw [c5b0]) | skip)
      have H' := Aside0.mk H
      clear H
      obtain ⟨zba, zbb⟩ := M.bc2 (w := w4) (a := .string a1_0) (b := .string a1_1) zbp.out
      obtain ⟨zbd, zbe⟩ := M.bf2 zbp
      go_wp2
      go_meet
      case rel => exact ⟨_, (true), (by first | rfl | (simp; done) | (simp [*]; done) | (simp [M.isEmpty_bne]; done)), H', ⟨by first | omega | exact Nat.le_refl _⟩, ⟨by (with_reducible repeat (first | refine blk_drewN ?_ _ | refine blk_drew ?_ | refine blk_alloc ?_ _)); exact zbp.out⟩, ⟨M.up HB⟩⟩
    · rw [if_neg c5] at H
      have c5b0 : (a1_0.toList == ([] : List UInt8)) = false := beq_eq_false_iff_ne.mpr c5
      have c5b1 : (a1_0.toList != ([] : List UInt8)) = true := bne_iff_ne.mpr c5
      (first | rw [c5b0] | (simp only [i64_w, i32_w]; rw [c5b0]) | skip)
      have H' := Aside0.mk H
      clear H
      obtain ⟨zbs, zbt⟩ := M.bc2 (w := w4) (a := .string a1_0) (b := .string a1_1) zbp.out
      obtain ⟨zbu, zbv⟩ := M.bf2 zbp
      go_wp2
      go_meet
      case rel => exact ⟨_, (decide ((a1_0.size : Int) > 64)), (by first | rfl | (simp; done) | (simp [*]; done) | (simp [M.isEmpty_bne]; done)), H', ⟨by first | omega | exact Nat.le_refl _⟩, ⟨by (with_reducible repeat (first | refine blk_drewN ?_ _ | refine blk_drew ?_ | refine blk_alloc ?_ _)); exact zbp.out⟩, ⟨M.up HB⟩⟩
  case rest =>
    clear HC3
    try clear p2
    try clear c3
    try clear c5
    try clear c5b0
    try clear c5b1
    try clear zba
    try clear zbb
    try clear zbs
    try clear zbt
    try clear zbd
    try clear zbe
    try clear zbu
    try clear zbv
    obtain ⟨kq, x13_2, rfl, HA, HJ2, zbp, HB⟩ := hcut
    cases kq with
    | zero => exact absurd HA.out (by simp [chunk_fits_p.j0])
    | succ kj2 =>
      have H := HA.out
      clear HA
      simp only [chunk_fits_p.j0] at H
      by_cases c8 : x13_2 = true
      · subst c8
        have H1 : (some false) = some r := by rw [if_pos rfl] at H; exact H
        clear H
        have H := H1
        clear H1
        obtain rfl := Option.some.inj H
        go_wp2
        go_ret
        exact M.fin (M.up HB)
      · replace c8 := Bool.eq_false_iff.mpr c8
        subst c8
        have H1 : (if a0 > 0 then (some ((a1_1.size : Int) == 32)) else (some (decide ((a1_1.size : Int) ≤ 2048)))) = some r := by rw [if_neg (show ¬ (false = true) by decide)] at H; exact H
        clear H
        have H := H1
        clear H1
        by_cases c9 : a0 > 0
        · rw [if_pos c9] at H
          have c9b0 : decide (0 < a0) = true := decide_eq_true c9
          clear c9
          obtain rfl := Option.some.inj H
          obtain ⟨zbw, zbx⟩ := M.bc2 (w := wc) (a := .string a1_0) (b := .string a1_1) zbp.out
          obtain ⟨zby, zbz⟩ := M.bf2 zbp
          go_wp2
          go_ret
          exact M.fin (M.up HB)
        · rw [if_neg c9] at H
          have c9b0 : decide (0 < a0) = false := decide_eq_false c9
          clear c9
          obtain rfl := Option.some.inj H
          obtain ⟨zan, zao⟩ := M.bc2 (w := wc) (a := .string a1_0) (b := .string a1_1) zbp.out
          obtain ⟨zaq, zar⟩ := M.bf2 zbp
          go_wp2
          go_ret
          exact M.fin (M.up HB)

-- this session's own plain form
def chunk_fits.f (a0 : Int) (a1_0 : ByteArray) (a1_1 : ByteArray) : Option Bool := some (chunk_fits.ok a0 a1_0 a1_1)
theorem chunk_fits.nil (s : ByteArray) : s.toList = ([] : List UInt8) ↔ s.size = 0 := by
  rw [M.toList_bs, ← M.bs_length, List.length_eq_zero_iff]
theorem chunk_fits.ev (lv : Int) (k v : ByteArray) (r : Bool) (h : chunk_fits.f lv k v = some r) : ∃ n, chunk_fits_p.f n lv k v = some r := by
  refine ⟨1, ?_⟩
  rw [← h]
  unfold chunk_fits_p.f chunk_fits.f chunk_fits.ok
  have e : ∀ b, chunk_fits_p.j0 1 lv b k v = if b = true then some false else if lv > 0 then some ((v.size : Int) == 32) else some (decide ((v.size : Int) ≤ 2048)) := fun b => by simp only [chunk_fits_p.j0]
  by_cases h0 : k.size = 0
  · rw [if_pos ((chunk_fits.nil k).2 h0), e, if_pos rfl]
    congr 1
    exact (decide_eq_false (by omega)).symm
  · rw [if_neg (fun z => h0 ((chunk_fits.nil k).1 z)), e]
    by_cases h1 : (k.size : Int) > 64
    · rw [if_pos (decide_eq_true h1)]
      congr 1
      exact (decide_eq_false (by omega)).symm
    · rw [decide_eq_false h1, if_neg (by simp)]
      by_cases hl : lv > 0
      · rw [if_pos hl]
        congr 1
        simp only [if_pos hl]
        by_cases hv : v.size = 32
        · rw [decide_eq_true ⟨by omega, by omega, hv⟩]; simp [hv]
        · rw [decide_eq_false (fun z => hv z.2.2)]; simp; omega
      · rw [if_neg hl]
        congr 1
        simp only [if_neg hl]
        apply decide_eq_decide.2; omega
theorem chunk_fits.calls (a0 : Int) (a1_0 : ByteArray) (a1_1 : ByteArray) (r : Bool) (w : World) (h : chunk_fits.f a0 a1_0 a1_1 = some r) :
    Calls Try.prog 37 #[.int .i64 a0, .agg #[.string a1_0, .string a1_1]] w fun e w' => e = .returned (.bool r) ∧ Below w.heap.size w w' := by
  obtain ⟨k, hk⟩ := chunk_fits.ev _ _ _ _ h
  exact chunk_fits_p.calls (k := k) (w := w) (h := hk)

end Go.Proofs.Ytccppdpmfegndaa.EChunkTells
