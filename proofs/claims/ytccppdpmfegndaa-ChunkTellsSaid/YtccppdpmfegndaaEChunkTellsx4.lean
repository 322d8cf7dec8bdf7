-- Written by this session's own program (wip/tools/ext.py) for this claim; Lean checks it.
import Derived.Test.YtccppdpmfegndaaEChunkTellsx0
import Derived.Test.YtccppdpmfegndaaEChunkTellsx3
namespace Go.Proofs.Ytccppdpmfegndaa.EChunkTells
open Go.RowKit Go.Proofs.YtccppdpmfegndaaW.PrintWords Go.Proofs.YtccppdpmfegndaaW.PrintLast Go.Proofs.YtccppdpmfegndaaW.PrintMore
attribute [local go_sem] M.run_leq M.run_gtr M.run_geq max2_int min2_int max_two min_two max_three min_three max_four min_four   -- for this text's walks alone
set_option linter.unusedVariables false
set_option linter.unusedSimpArgs false

/-! ### chunk_Check_p: function 24 -/
mutual
def chunk_Check_p.j0 : Nat → Bool → Int → List (S29) → List Int → Option (Int)
  | 0, _, _, _, _ => none
  | k + 1, x23, zaa, zab, zac => if x23 = true then (some 2) else (chunk_Check_p.l0 k zab (zab.length : Int) 0 zaa zab zac)
def chunk_Check_p.l0 : Nat → List (S29) → Int → Int → Int → List (S29) → List Int → Option (Int)
  | 0, _, _, _, _, _, _ => none
  | k + 1, x25, x26, x27, zaa, zab, zac => if x27 < x26 then (if 0 ≤ x27 then (if x27 < (x25.length : Int) then ((chunk_fits.f zaa ((rd_T29 x25 x27).f0) ((rd_T29 x25 x27).f1)).bind fun t111 => (if t111 = true then (if x27 > 0 then (if 0 ≤ (wrap64 (x27 - 1)) then (if (wrap64 (x27 - 1)) < (zab.length : Int) then (if ((Op.bytesLess (((rd_T29 zab (wrap64 (x27 - 1))).f0).toList) (((rd_T29 x25 x27).f0).toList)) = true) then (chunk_Check_p.l0 k x25 x26 (wrap64 (x27 + 1)) zaa zab zac) else (some 4)) else (none)) else (none)) else (chunk_Check_p.l0 k x25 x26 (wrap64 (x27 + 1)) zaa zab zac)) else (some 2))) else (none)) else (none)) else (some 0)
end
def chunk_Check_p.f (k : Nat) (a0_0 : Int) (l0_1 : List (S29)) (l0_2 : List Int) : Option (Int) := if a0_0 < 0 then (chunk_Check_p.j0 k true a0_0 l0_1 l0_2) else (if a0_0 > 40 then (chunk_Check_p.j0 k true a0_0 l0_1 l0_2) else (if (l0_1.length : Int) > 8 then (chunk_Check_p.j0 k true a0_0 l0_1 l0_2) else ((chunk_counted.f a0_0 l0_1 l0_2).bind fun t108 => (chunk_Check_p.j0 k (!t108) a0_0 l0_1 l0_2))))
theorem chunk_Check_p.mono_l : ∀ k, (∀ y0 y1 y2 y3, LeO (chunk_Check_p.j0 k y0 y1 y2 y3) (chunk_Check_p.j0 (k + 1) y0 y1 y2 y3)) ∧ (∀ y0 y1 y2 y3 y4 y5, LeO (chunk_Check_p.l0 k y0 y1 y2 y3 y4 y5) (chunk_Check_p.l0 (k + 1) y0 y1 y2 y3 y4 y5))
  | 0 => ⟨fun _ _ _ _ r h => by simp [chunk_Check_p.j0] at h, fun _ _ _ _ _ _ r h => by simp [chunk_Check_p.l0] at h⟩
  | k + 1 => by
    obtain ⟨ih0, ih1⟩ := chunk_Check_p.mono_l k
    refine ⟨?_, ?_⟩
    · intro y0 y1 y2 y3
      unfold chunk_Check_p.j0
      repeat' first
      | (with_reducible exact ih0 _ _ _ _)
      | (with_reducible exact ih1 _ _ _ _ _ _)
      | (with_reducible exact LeO.refl _)
      | (with_reducible exact LeO.none _)
      | (with_reducible refine LeO.ite ?_ ?_)
      | (with_reducible refine LeO.bind ?_ (fun _ => ?_))
      | exact ih0 _ _ _ _
      | exact ih1 _ _ _ _ _ _
      | exact LeO.none _
      | refine LeO.ite ?_ ?_
      | refine LeO.bind ?_ (fun _ => ?_)
    · intro y0 y1 y2 y3 y4 y5
      unfold chunk_Check_p.l0
      repeat' first
      | (with_reducible exact ih0 _ _ _ _)
      | (with_reducible exact ih1 _ _ _ _ _ _)
      | (with_reducible exact LeO.refl _)
      | (with_reducible exact LeO.none _)
      | (with_reducible refine LeO.ite ?_ ?_)
      | (with_reducible refine LeO.bind ?_ (fun _ => ?_))
      | exact ih0 _ _ _ _
      | exact ih1 _ _ _ _ _ _
      | exact LeO.none _
      | refine LeO.ite ?_ ?_
      | refine LeO.bind ?_ (fun _ => ?_)
theorem chunk_Check_p.mono : ∀ a0 a1 a2 k, LeO (chunk_Check_p.f k a0 a1 a2) (chunk_Check_p.f (k + 1) a0 a1 a2) := by
  intro a0 a1 a2 k
  obtain ⟨ih0, ih1⟩ := chunk_Check_p.mono_l k
  unfold chunk_Check_p.f
  repeat' first
      | (with_reducible exact ih0 _ _ _ _)
      | (with_reducible exact ih1 _ _ _ _ _ _)
      | (with_reducible exact LeO.refl _)
      | (with_reducible exact LeO.none _)
      | (with_reducible refine LeO.ite ?_ ?_)
      | (with_reducible refine LeO.bind ?_ (fun _ => ?_))
      | exact ih0 _ _ _ _
      | exact ih1 _ _ _ _ _ _
      | exact LeO.none _
      | refine LeO.ite ?_ ?_
      | refine LeO.bind ?_ (fun _ => ?_)
set_option maxHeartbeats 8000000 in
set_option maxRecDepth 100000 in
theorem chunk_Check_p.calls (k : Nat) (a0_0 : Int) (A0_1 : Option Addr) (c0_1 : Nat) (l0_1 : List (S29)) (A0_2 : Option Addr) (c0_2 : Nat) (l0_2 : List Int) (r : Int) (w : World) (hr0_1 : Kd.C k29 w A0_1 l0_1.length l0_1) (hc0_1 : l0_1.length ≤ c0_1) (hr0_2 : Kd.C (Kd.int .i64) w A0_2 l0_2.length l0_2) (hc0_2 : l0_2.length ≤ c0_2) (h : chunk_Check_p.f k a0_0 l0_1 l0_2 = some r) :
    Calls Try.prog 24 #[.agg #[.int .i64 a0_0, .slice A0_1 l0_1.length c0_1, .slice A0_2 l0_2.length c0_2]] w fun e w' => e = .returned (.int .i64 r) ∧ Below w.heap.size w w' := by
  have hu25 := Try.underlying25
  have hu29 := Try.underlying29
  have HR0_1 := Aside0.mk hr0_1
  have HC0_1 := Aside0.mk hc0_1
  clear hr0_1 hc0_1
  have HR0_2 := Aside0.mk hr0_2
  have HC0_2 := Aside0.mk hc0_2
  clear hr0_2 hc0_2
  have HB := Aside0.mk (Below.refl w.heap.size w)
  have H : (if a0_0 < 0 then (chunk_Check_p.j0 k true a0_0 l0_1 l0_2) else (if a0_0 > 40 then (chunk_Check_p.j0 k true a0_0 l0_1 l0_2) else (if (l0_1.length : Int) > 8 then (chunk_Check_p.j0 k true a0_0 l0_1 l0_2) else ((chunk_counted.f a0_0 l0_1 l0_2).bind fun t108 => (chunk_Check_p.j0 k (!t108) a0_0 l0_1 l0_2))))) = some r := h
  clear h
  have HC2 := Aside0.mk H
  clear H
  go_enter Try.func24, Try.ntmps24
  go_upto_region 1 with (first | ((with_reducible refine gate_dst (N := 1) rfl ?_); (try (refine gate_guard (by rfl) ?_; dsimp only)); refine box_event ?hg (N := 1) ?hd (cs := #[.int .i64 a0_0, .slice A0_1 l0_1.length c0_1, .slice A0_2 l0_2.length c0_2]) (t := 25) ?hr ?_; (case hd => rfl); (case hg => rfl); (case hr => first | (go_simp; done) | (go_simp; rfl)); intro zad hg w3 hbox hb; have n0_ := M.upS HB hb; have n1_ := Aside0.mk (hbox); have n2_ := M.upG HB hg; have n3_ := M.upG HB hg; clear HB; have HB := n0_; have zae := n1_; have zaf := n2_; have zag := n3_; clear n0_ n1_ n2_ n3_; clear hb hbox hg))
  repeat (go_quiet (first | ((with_reducible refine gate_dst (N := 1) rfl ?_); (try (refine gate_guard (by rfl) ?_; dsimp only)); refine box_event ?hg (N := 1) ?hd (cs := #[.int .i64 a0_0, .slice A0_1 l0_1.length c0_1, .slice A0_2 l0_2.length c0_2]) (t := 25) ?hr ?_; (case hd => rfl); (case hg => rfl); (case hr => first | (go_simp; done) | (go_simp; rfl)); intro zad hg w3 hbox hb; have n0_ := M.upS HB hb; have n1_ := Aside0.mk (hbox); have n2_ := M.upG HB hg; have n3_ := M.upG HB hg; clear HB; have HB := n0_; have zae := n1_; have zaf := n2_; have zag := n3_; clear n0_ n1_ n2_ n3_; clear hb hbox hg)); go_upto_region 1 with (first | ((with_reducible refine gate_dst (N := 1) rfl ?_); (try (refine gate_guard (by rfl) ?_; dsimp only)); refine box_event ?hg (N := 1) ?hd (cs := #[.int .i64 a0_0, .slice A0_1 l0_1.length c0_1, .slice A0_2 l0_2.length c0_2]) (t := 25) ?hr ?_; (case hd => rfl); (case hg => rfl); (case hr => first | (go_simp; done) | (go_simp; rfl)); intro zad hg w3 hbox hb; have n0_ := M.upS HB hb; have n1_ := Aside0.mk (hbox); have n2_ := M.upG HB hg; have n3_ := M.upG HB hg; clear HB; have HB := n0_; have zae := n1_; have zaf := n2_; have zag := n3_; clear n0_ n1_ n2_ n3_; clear hb hbox hg)))
  (try simp only [Act.put, List.setIfInBounds_toArray, List.set_cons_zero, List.set_cons_succ])
  go_cut [23] (fun v23 wc => ∃ (kq : Nat) (x23_1 : Bool), v23 = .bool x23_1 ∧ Aside0 (chunk_Check_p.j0 kq x23_1 a0_0 l0_1 l0_2 = some r) ∧ Aside0 (kq ≤ k) ∧ Aside0 (wc.heap[zad]? = some (.cells #[.int .i64 a0_0, (.slice A0_1 l0_1.length c0_1), (.slice A0_2 l0_2.length c0_2)] 25 (0, 0))) ∧ Aside0 (Below w.heap.size w wc))
  case first =>
    have H := HC2.out
    clear HC2
    by_cases c4 : a0_0 < 0
    · rw [if_pos c4] at H
      have c4b0 : decide (a0_0 < 0) = true := decide_eq_true c4
      clear c4
      (first | rw [c4b0] | (simp only [i64_w, i32_w]; rw [c4b0]) | skip)
      have H' := Aside0.mk H
      clear H
      obtain ⟨zah, zai, zaj⟩ := M.bc3 (w := w3) (a := .int .i64 a0_0) (b := .slice A0_1 l0_1.length c0_1) (c := .slice A0_2 l0_2.length c0_2) zae.out
      obtain ⟨zak, zal, zam⟩ := M.bf3 zae
      go_wp2
      repeat (go_quiet (fail); try go_wp2)
      go_meet
      case rel => exact ⟨_, (true), (by first | rfl | (simp; done) | (simp [*]; done) | (simp [M.isEmpty_bne]; done)), H', ⟨by first | omega | exact Nat.le_refl _⟩, ⟨by (with_reducible repeat (first | refine blk_drewN ?_ _ | refine blk_drew ?_ | refine blk_alloc ?_ _)); exact zae.out⟩, ⟨M.up HB⟩⟩
    · rw [if_neg c4] at H
      have c4b0 : decide (a0_0 < 0) = false := decide_eq_false c4
      clear c4
      (first | rw [c4b0] | (simp only [i64_w, i32_w]; rw [c4b0]) | skip)
      by_cases c6 : a0_0 > 40
      · rw [if_pos c6] at H
        have c6b0 : decide (40 < a0_0) = true := decide_eq_true c6
        clear c6
        have H' := Aside0.mk H
        clear H
        obtain ⟨zan, zao, zap⟩ := M.bc3 (w := w3) (a := .int .i64 a0_0) (b := .slice A0_1 l0_1.length c0_1) (c := .slice A0_2 l0_2.length c0_2) zae.out
        obtain ⟨zaq, zar, zas⟩ := M.bf3 zae
        go_wp2
        repeat (go_quiet (fail); try go_wp2)
        go_meet
        case rel => exact ⟨_, (true), (by first | rfl | (simp; done) | (simp [*]; done) | (simp [M.isEmpty_bne]; done)), H', ⟨by first | omega | exact Nat.le_refl _⟩, ⟨by (with_reducible repeat (first | refine blk_drewN ?_ _ | refine blk_drew ?_ | refine blk_alloc ?_ _)); exact zae.out⟩, ⟨M.up HB⟩⟩
      · rw [if_neg c6] at H
        have c6b0 : decide (40 < a0_0) = false := decide_eq_false c6
        clear c6
        by_cases c8 : (l0_1.length : Int) > 8
        · rw [if_pos c8] at H
          have c8b0 : decide (8 < (l0_1.length : Int)) = true := decide_eq_true c8
          have c8b1 : decide (8 < l0_1.length) = true := decide_eq_true (by omega)
          clear c8
          have H' := Aside0.mk H
          clear H
          obtain ⟨zat, zau, zav⟩ := M.bc3 (w := w3) (a := .int .i64 a0_0) (b := .slice A0_1 l0_1.length c0_1) (c := .slice A0_2 l0_2.length c0_2) zae.out
          obtain ⟨zaw, zax, zay⟩ := M.bf3 zae
          go_wp2
          repeat (go_quiet (fail); try go_wp2)
          go_meet
          case rel => exact ⟨_, (true), (by first | rfl | (simp; done) | (simp [*]; done) | (simp [M.isEmpty_bne]; done)), H', ⟨by first | omega | exact Nat.le_refl _⟩, ⟨by (with_reducible repeat (first | refine blk_drewN ?_ _ | refine blk_drew ?_ | refine blk_alloc ?_ _)); exact zae.out⟩, ⟨M.up HB⟩⟩
        · rw [if_neg c8] at H
          have c8b0 : decide (8 < (l0_1.length : Int)) = false := decide_eq_false c8
          have c8b1 : decide (8 < l0_1.length) = false := decide_eq_false (by omega)
          clear c8
          replace H := Option.bind_eq_some_iff.mp H
          obtain ⟨t108, A100, H⟩ := H
          replace H : (chunk_Check_p.j0 k (!t108) a0_0 l0_1 l0_2) = some r := H
          have A10 := Aside0.mk A100
          clear A100
          have H' := Aside0.mk H
          clear H
          obtain ⟨zaz, zaA, zaB⟩ := M.bc3 (w := w3) (a := .int .i64 a0_0) (b := .slice A0_1 l0_1.length c0_1) (c := .slice A0_2 l0_2.length c0_2) zae.out
          obtain ⟨zaC, zaD, zaE⟩ := M.bf3 zae
          go_wp2_with (first | (go_at_call 36; (with_reducible refine (chunk_counted.calls a0_0 _ _ l0_1 _ _ l0_2 t108 _ ?side1 ?side2 ?side3 ?side4 A10.out).mono ?_); (case side1 => exact M.cB HR0_1 HB); (case side2 => exact HC0_1.out); (case side3 => exact M.cB HR0_2 HB); (case side4 => exact HC0_2.out); rintro e w12 ⟨rfl, hb⟩; have n0_ := M.bkB zae hb; have n1_ := M.upS HB hb; clear zae HB; have zae := n0_; have HB := n1_; clear n0_ n1_; (try clear hb); (try clear hb2); (try clear hk); (try clear hi)))
          repeat (go_quiet (first | (go_at_call 36; (with_reducible refine (chunk_counted.calls a0_0 _ _ l0_1 _ _ l0_2 t108 _ ?side1 ?side2 ?side3 ?side4 A10.out).mono ?_); (case side1 => exact M.cB HR0_1 HB); (case side2 => exact HC0_1.out); (case side3 => exact M.cB HR0_2 HB); (case side4 => exact HC0_2.out); rintro e w12 ⟨rfl, hb⟩; have n0_ := M.bkB zae hb; have n1_ := M.upS HB hb; clear zae HB; have zae := n0_; have HB := n1_; clear n0_ n1_; (try clear hb); (try clear hb2); (try clear hk); (try clear hi))); try go_wp2_with (first | (go_at_call 36; (with_reducible refine (chunk_counted.calls a0_0 _ _ l0_1 _ _ l0_2 t108 _ ?side1 ?side2 ?side3 ?side4 A10.out).mono ?_); (case side1 => exact M.cB HR0_1 HB); (case side2 => exact HC0_1.out); (case side3 => exact M.cB HR0_2 HB); (case side4 => exact HC0_2.out); rintro e w12 ⟨rfl, hb⟩; have n0_ := M.bkB zae hb; have n1_ := M.upS HB hb; clear zae HB; have zae := n0_; have HB := n1_; clear n0_ n1_; (try clear hb); (try clear hb2); (try clear hk); (try clear hi))))
          go_meet
          case rel => exact ⟨_, (!t108), (by first | rfl | (simp; done) | (simp [*]; done) | (simp [M.isEmpty_bne]; done)), H', ⟨by first | omega | exact Nat.le_refl _⟩, ⟨by (with_reducible repeat (first | refine blk_drewN ?_ _ | refine blk_drew ?_ | refine blk_alloc ?_ _)); exact zae.out⟩, ⟨M.up HB⟩⟩
  case rest =>
    clear HC2
    try clear c2
    try clear p2
    try clear c4
    try clear c4b0
    try clear c6
    try clear c6b0
    try clear c8
    try clear c8b0
    try clear c8b1
    try clear zaz
    try clear zaA
    try clear zaB
    try clear zah
    try clear zai
    try clear zaj
    try clear zan
    try clear zao
    try clear zap
    try clear zat
    try clear zau
    try clear zav
    try clear zaC
    try clear zaD
    try clear zaE
    try clear zak
    try clear zal
    try clear zam
    try clear zaq
    try clear zar
    try clear zas
    try clear zaw
    try clear zax
    try clear zay
    obtain ⟨kq, x23_1, rfl, HA, HJ1, zae, HB⟩ := hcut
    cases kq with
    | zero => exact absurd HA.out (by simp [chunk_Check_p.j0])
    | succ kj1 =>
      have H := HA.out
      clear HA
      simp only [chunk_Check_p.j0] at H
      by_cases c13 : x23_1 = true
      · subst c13
        have H1 : (some 2) = some r := by rw [if_pos rfl] at H; exact H
        clear H
        have H := H1
        clear H1
        obtain rfl := Option.some.inj H
        go_wp2
        repeat (go_quiet (fail); try go_wp2)
        go_ret
        exact M.fin (M.up HB)
      · replace c13 := Bool.eq_false_iff.mpr c13
        subst c13
        have H1 : (chunk_Check_p.l0 kj1 l0_1 (l0_1.length : Int) 0 a0_0 l0_1 l0_2) = some r := by rw [if_neg (show ¬ (false = true) by decide)] at H; exact H
        clear H
        have H := H1
        clear H1
        have H' := Aside0.mk H
        clear H
        obtain ⟨zaF, zaG, zaH⟩ := M.bc3 (w := wc) (a := .int .i64 a0_0) (b := .slice A0_1 l0_1.length c0_1) (c := .slice A0_2 l0_2.length c0_2) zae.out
        obtain ⟨zaI, zaJ, zaK⟩ := M.bf3 zae
        go_wp2
        repeat (go_quiet (fail); try go_wp2)
        go_loopg [27] kj1 (fun kq v27 w' => ∃ (x27_2 : Int), v27 = .int .i64 x27_2 ∧ Aside0 (chunk_Check_p.l0 kq l0_1 (l0_1.length : Int) x27_2 a0_0 l0_1 l0_2 = some r) ∧ Aside0 (kq ≤ kj1) ∧ Aside0 (w'.heap[zad]? = some (.cells #[.int .i64 a0_0, (.slice A0_1 l0_1.length c0_1), (.slice A0_2 l0_2.length c0_2)] 25 (0, 0))) ∧ Aside0 (Below w.heap.size w w'))
        case atStart => exact ⟨(0), (by first | rfl | (simp; done) | (simp [*]; done) | (simp [M.isEmpty_bne]; done)), H', ⟨Nat.le_refl _⟩, ⟨by (with_reducible repeat (first | refine blk_drewN ?_ _ | refine blk_drew ?_ | refine blk_alloc ?_ _)); exact zae.out⟩, ⟨M.up HB⟩⟩
        case round =>
          clear H'
          try clear c1
          try clear c2
          try clear p2
          try clear c4
          try clear c4b0
          try clear c6
          try clear c6b0
          try clear c8
          try clear c8b0
          try clear c8b1
          try clear c13
          try clear zaz
          try clear zaA
          try clear zaB
          try clear zaF
          try clear zaG
          try clear zaH
          try clear zah
          try clear zai
          try clear zaj
          try clear zan
          try clear zao
          try clear zap
          try clear zat
          try clear zau
          try clear zav
          try clear zaC
          try clear zaD
          try clear zaE
          try clear zaI
          try clear zaJ
          try clear zaK
          try clear zak
          try clear zal
          try clear zam
          try clear zaq
          try clear zar
          try clear zas
          try clear zaw
          try clear zax
          try clear zay
          try clear p2
          obtain ⟨x27_2, rfl, HA, HK2, zae, HB⟩ := hrel
          cases gk with
          | zero => exact absurd HA.out (by simp [chunk_Check_p.l0])
          | succ k2 =>
            have H := HA.out
            clear HA
            simp only [chunk_Check_p.l0] at H
            by_cases c15 : x27_2 < (l0_1.length : Int)
            · rw [if_pos c15] at H
              have c15b0 : decide (x27_2 < (l0_1.length : Int)) = true := decide_eq_true c15
              clear c15
              by_cases c16 : 0 ≤ x27_2
              · rw [if_pos c16] at H
                have c16b0 : decide (0 ≤ x27_2) = true := decide_eq_true c16
                clear c16
                by_cases c17 : x27_2 < (l0_1.length : Int)
                · rw [if_pos c17] at H
                  have c17b0 : decide (x27_2 < (l0_1.length : Int)) = true := decide_eq_true c17
                  clear c17
                  replace H := Option.bind_eq_some_iff.mp H
                  obtain ⟨t111, A180, H⟩ := H
                  replace H : (if t111 = true then (if x27_2 > 0 then (if 0 ≤ (wrap64 (x27_2 - 1)) then (if (wrap64 (x27_2 - 1)) < (l0_1.length : Int) then (if ((Op.bytesLess (((rd_T29 l0_1 (wrap64 (x27_2 - 1))).f0).toList) (((rd_T29 l0_1 x27_2).f0).toList)) = true) then (chunk_Check_p.l0 k2 l0_1 (l0_1.length : Int) (wrap64 (x27_2 + 1)) a0_0 l0_1 l0_2) else (some 4)) else (none)) else (none)) else (chunk_Check_p.l0 k2 l0_1 (l0_1.length : Int) (wrap64 (x27_2 + 1)) a0_0 l0_1 l0_2)) else (some 2)) = some r := H
                  have A18 := Aside0.mk A180
                  clear A180
                  by_cases c19 : t111 = true
                  · subst c19
                    have H1 : (if x27_2 > 0 then (if 0 ≤ (wrap64 (x27_2 - 1)) then (if (wrap64 (x27_2 - 1)) < (l0_1.length : Int) then (if ((Op.bytesLess (((rd_T29 l0_1 (wrap64 (x27_2 - 1))).f0).toList) (((rd_T29 l0_1 x27_2).f0).toList)) = true) then (chunk_Check_p.l0 k2 l0_1 (l0_1.length : Int) (wrap64 (x27_2 + 1)) a0_0 l0_1 l0_2) else (some 4)) else (none)) else (none)) else (chunk_Check_p.l0 k2 l0_1 (l0_1.length : Int) (wrap64 (x27_2 + 1)) a0_0 l0_1 l0_2)) = some r := by rw [if_pos rfl] at H; exact H
                    clear H
                    have H := H1
                    clear H1
                    by_cases c20 : x27_2 > 0
                    · rw [if_pos c20] at H
                      have c20b0 : decide (0 < x27_2) = true := decide_eq_true c20
                      clear c20
                      obtain ⟨ji21, hji21⟩ : ∃ j_ : Int, (wrap64 (x27_2 - 1)) = j_ := ⟨_, rfl⟩
                      replace H : (if 0 ≤ (ji21) then (if (ji21) < (l0_1.length : Int) then (if ((Op.bytesLess (((rd_T29 l0_1 (ji21)).f0).toList) (((rd_T29 l0_1 x27_2).f0).toList)) = true) then (chunk_Check_p.l0 k2 l0_1 (l0_1.length : Int) (wrap64 (x27_2 + 1)) a0_0 l0_1 l0_2) else (some 4)) else (none)) else (none)) = some r := by first | (rw [hji21] at H; exact H) | (simp only [hji21] at H ⊢; exact H)
                      (try rw [hji21] at A18)
                      have hji21w : (IntKind.i64.wrap (x27_2 - 1)) = ji21 := (i64_w _).trans hji21
                      by_cases c22 : 0 ≤ (ji21)
                      · rw [if_pos c22] at H
                        have c22b0 : decide (0 ≤ (ji21)) = true := decide_eq_true c22
                        clear c22
                        by_cases c23 : (ji21) < (l0_1.length : Int)
                        · rw [if_pos c23] at H
                          have c23b0 : decide ((ji21) < (l0_1.length : Int)) = true := decide_eq_true c23
                          clear c23
                          by_cases c24 : ((Op.bytesLess (((rd_T29 l0_1 (ji21)).f0).toList) (((rd_T29 l0_1 x27_2).f0).toList)) = true)
                          · rw [if_pos c24] at H
                            have c24b0 : (Op.bytesLess (((rd_T29 l0_1 (ji21)).f0).toList) (((rd_T29 l0_1 x27_2).f0).toList)) = true := c24
                            clear c24
                            have H' := Aside0.mk H
                            clear H
                            have p109 : 0 ≤ (x27_2 : Int) := of_decide_eq_true (by first | (with_reducible assumption) | assumption)
                            have q109 : x27_2 < (l0_1.length : Int) := of_decide_eq_true (by first | (with_reducible assumption) | assumption)
                            obtain ⟨ad109, e109, hx109_0, hx109_1⟩ := at_T29 HR0_1.out x27_2 p109 q109
                            cases e109
                            replace hx109_0 := (HB.out.cell (World.block_lt_of_cell? w _ hx109_0)).trans hx109_0
                            replace hx109_1 := (HB.out.cell (World.block_lt_of_cell? w _ hx109_1)).trans hx109_1
                            replace p109 := eq_true p109
                            replace q109 := eq_true q109
                            go_wp2_with (first | ((with_reducible refine gate_dst (N := 4) rfl ?_); (try (refine gate_guard (by rfl) ?_; dsimp only)); refine box_event ?hg (N := 4) ?hd (cs := #[.string (⟨#[]⟩ : ByteArray), .string (⟨#[]⟩ : ByteArray)]) (t := 29) ?hr ?_; (case hd => rfl); (case hg => rfl); (case hr => first | (go_simp; done) | (go_simp; rfl)); intro zaL hg w25 hbox hb; have n0_ := M.bkB zae hb; have n1_ := M.upS HB hb; have n2_ := Aside0.mk (hbox); have n3_ := M.upG HB hg; have n4_ := M.upG HB hg; have n5_ := M.bkL zae hg; have n6_ := M.bkG zae hg; clear zae HB; have zae := n0_; have HB := n1_; have zaM := n2_; have zaN := n3_; have zaO := n4_; have zaP := n5_; have zaQ := n6_; clear n0_ n1_ n2_ n3_ n4_ n5_ n6_; clear hb hbox hg; have zaR := zaQ.out; have zaS := zaP.out; obtain ⟨zaT, zaU⟩ := M.bc2 (w := w25) (a := .string (⟨#[]⟩ : ByteArray)) (b := .string (⟨#[]⟩ : ByteArray)) zaM.out; obtain ⟨zaV, zaW⟩ := M.bf2 zaM; obtain ⟨zaX, zaY, zaZ⟩ := M.bc3 (w := w25) (a := .int .i64 a0_0) (b := .slice (some ad109) l0_1.length c0_1) (c := .slice A0_2 l0_2.length c0_2) zae.out; obtain ⟨za0, za1, za2⟩ := M.bf3 zae) | (go_at_call 37; (with_reducible refine (chunk_fits.calls a0_0 ((rd_T29 l0_1 x27_2).f0) ((rd_T29 l0_1 x27_2).f1) true _ A18.out).mono ?_); rintro e w29 ⟨rfl, hb⟩; have n0_ := Aside0.mk (blk_below (g := zad) (o := .cells #[.int .i64 a0_0, .slice (some ad109) l0_1.length c0_1, .slice A0_2 l0_2.length c0_2] 25 (0, 0)) (by (with_reducible repeat (first | refine blk_drewN ?_ _ | refine blk_drew ?_ | refine blk_alloc ?_ _)); refine blk_far ?_ zaP.out _; (with_reducible repeat (first | refine blk_drewN ?_ _ | refine blk_drew ?_ | refine blk_alloc ?_ _)); refine blk_far ?_ zaP.out _; (with_reducible repeat (first | refine blk_drewN ?_ _ | refine blk_drew ?_ | refine blk_alloc ?_ _)); exact zae.out) hb); have n1_ := Aside0.mk (blk_below (g := zaL) (o := .cells #[.string ((rd_T29 l0_1 x27_2).f0), .string ((rd_T29 l0_1 x27_2).f1)] 29 (0, 0)) (by (with_reducible repeat (first | refine blk_drewN ?_ _ | refine blk_drew ?_ | refine blk_alloc ?_ _)); refine blk_put (cs := #[.string ((rd_T29 l0_1 x27_2).f0), .string (⟨#[]⟩ : ByteArray)]) ?_ 1 _ rfl; (with_reducible repeat (first | refine blk_drewN ?_ _ | refine blk_drew ?_ | refine blk_alloc ?_ _)); refine blk_put (cs := #[.string (⟨#[]⟩ : ByteArray), .string (⟨#[]⟩ : ByteArray)]) ?_ 0 _ rfl; (with_reducible repeat (first | refine blk_drewN ?_ _ | refine blk_drew ?_ | refine blk_alloc ?_ _)); exact zaM.out) hb); have n2_ := M.upS HB hb; clear zae zaM HB; have zae := n0_; have zaM := n1_; have HB := n2_; clear n0_ n1_ n2_; (try clear hb); (try clear hb2); (try clear hk); (try clear hi); obtain ⟨za3, za4, za5⟩ := M.bc3 (w := w29) (a := .int .i64 a0_0) (b := .slice (some ad109) l0_1.length c0_1) (c := .slice A0_2 l0_2.length c0_2) zae.out; obtain ⟨za6, za7, za8⟩ := M.bf3 zae; have p112 : 0 ≤ ((ji21) : Int) := of_decide_eq_true (by first | (with_reducible assumption) | assumption); have q112 : (ji21) < (l0_1.length : Int) := of_decide_eq_true (by first | (with_reducible assumption) | assumption); obtain ⟨ad112, e112, hx112_0, hx112_1⟩ := at_T29 HR0_1.out (ji21) p112 q112; obtain rfl : ad109 = ad112 := (by injection e112); replace hx112_0 := (HB.out.cell (World.block_lt_of_cell? w _ hx112_0)).trans hx112_0; replace hx112_1 := (HB.out.cell (World.block_lt_of_cell? w _ hx112_1)).trans hx112_1; replace p112 := eq_true p112; replace q112 := eq_true q112; obtain ⟨za9, zba⟩ := M.bc2 (w := w29) (a := .string ((rd_T29 l0_1 x27_2).f0)) (b := .string ((rd_T29 l0_1 x27_2).f1)) zaM.out; obtain ⟨zbb, zbc⟩ := M.bf2 zaM))
                            repeat (go_quiet (first | ((with_reducible refine gate_dst (N := 4) rfl ?_); (try (refine gate_guard (by rfl) ?_; dsimp only)); refine box_event ?hg (N := 4) ?hd (cs := #[.string (⟨#[]⟩ : ByteArray), .string (⟨#[]⟩ : ByteArray)]) (t := 29) ?hr ?_; (case hd => rfl); (case hg => rfl); (case hr => first | (go_simp; done) | (go_simp; rfl)); intro zaL hg w25 hbox hb; have n0_ := M.bkB zae hb; have n1_ := M.upS HB hb; have n2_ := Aside0.mk (hbox); have n3_ := M.upG HB hg; have n4_ := M.upG HB hg; have n5_ := M.bkL zae hg; have n6_ := M.bkG zae hg; clear zae HB; have zae := n0_; have HB := n1_; have zaM := n2_; have zaN := n3_; have zaO := n4_; have zaP := n5_; have zaQ := n6_; clear n0_ n1_ n2_ n3_ n4_ n5_ n6_; clear hb hbox hg; have zaR := zaQ.out; have zaS := zaP.out; obtain ⟨zaT, zaU⟩ := M.bc2 (w := w25) (a := .string (⟨#[]⟩ : ByteArray)) (b := .string (⟨#[]⟩ : ByteArray)) zaM.out; obtain ⟨zaV, zaW⟩ := M.bf2 zaM; obtain ⟨zaX, zaY, zaZ⟩ := M.bc3 (w := w25) (a := .int .i64 a0_0) (b := .slice (some ad109) l0_1.length c0_1) (c := .slice A0_2 l0_2.length c0_2) zae.out; obtain ⟨za0, za1, za2⟩ := M.bf3 zae) | (go_at_call 37; (with_reducible refine (chunk_fits.calls a0_0 ((rd_T29 l0_1 x27_2).f0) ((rd_T29 l0_1 x27_2).f1) true _ A18.out).mono ?_); rintro e w29 ⟨rfl, hb⟩; have n0_ := Aside0.mk (blk_below (g := zad) (o := .cells #[.int .i64 a0_0, .slice (some ad109) l0_1.length c0_1, .slice A0_2 l0_2.length c0_2] 25 (0, 0)) (by (with_reducible repeat (first | refine blk_drewN ?_ _ | refine blk_drew ?_ | refine blk_alloc ?_ _)); refine blk_far ?_ zaP.out _; (with_reducible repeat (first | refine blk_drewN ?_ _ | refine blk_drew ?_ | refine blk_alloc ?_ _)); refine blk_far ?_ zaP.out _; (with_reducible repeat (first | refine blk_drewN ?_ _ | refine blk_drew ?_ | refine blk_alloc ?_ _)); exact zae.out) hb); have n1_ := Aside0.mk (blk_below (g := zaL) (o := .cells #[.string ((rd_T29 l0_1 x27_2).f0), .string ((rd_T29 l0_1 x27_2).f1)] 29 (0, 0)) (by (with_reducible repeat (first | refine blk_drewN ?_ _ | refine blk_drew ?_ | refine blk_alloc ?_ _)); refine blk_put (cs := #[.string ((rd_T29 l0_1 x27_2).f0), .string (⟨#[]⟩ : ByteArray)]) ?_ 1 _ rfl; (with_reducible repeat (first | refine blk_drewN ?_ _ | refine blk_drew ?_ | refine blk_alloc ?_ _)); refine blk_put (cs := #[.string (⟨#[]⟩ : ByteArray), .string (⟨#[]⟩ : ByteArray)]) ?_ 0 _ rfl; (with_reducible repeat (first | refine blk_drewN ?_ _ | refine blk_drew ?_ | refine blk_alloc ?_ _)); exact zaM.out) hb); have n2_ := M.upS HB hb; clear zae zaM HB; have zae := n0_; have zaM := n1_; have HB := n2_; clear n0_ n1_ n2_; (try clear hb); (try clear hb2); (try clear hk); (try clear hi); obtain ⟨za3, za4, za5⟩ := M.bc3 (w := w29) (a := .int .i64 a0_0) (b := .slice (some ad109) l0_1.length c0_1) (c := .slice A0_2 l0_2.length c0_2) zae.out; obtain ⟨za6, za7, za8⟩ := M.bf3 zae; have p112 : 0 ≤ ((ji21) : Int) := of_decide_eq_true (by first | (with_reducible assumption) | assumption); have q112 : (ji21) < (l0_1.length : Int) := of_decide_eq_true (by first | (with_reducible assumption) | assumption); obtain ⟨ad112, e112, hx112_0, hx112_1⟩ := at_T29 HR0_1.out (ji21) p112 q112; obtain rfl : ad109 = ad112 := (by injection e112); replace hx112_0 := (HB.out.cell (World.block_lt_of_cell? w _ hx112_0)).trans hx112_0; replace hx112_1 := (HB.out.cell (World.block_lt_of_cell? w _ hx112_1)).trans hx112_1; replace p112 := eq_true p112; replace q112 := eq_true q112; obtain ⟨za9, zba⟩ := M.bc2 (w := w29) (a := .string ((rd_T29 l0_1 x27_2).f0)) (b := .string ((rd_T29 l0_1 x27_2).f1)) zaM.out; obtain ⟨zbb, zbc⟩ := M.bf2 zaM)); try go_wp2_with (first | ((with_reducible refine gate_dst (N := 4) rfl ?_); (try (refine gate_guard (by rfl) ?_; dsimp only)); refine box_event ?hg (N := 4) ?hd (cs := #[.string (⟨#[]⟩ : ByteArray), .string (⟨#[]⟩ : ByteArray)]) (t := 29) ?hr ?_; (case hd => rfl); (case hg => rfl); (case hr => first | (go_simp; done) | (go_simp; rfl)); intro zaL hg w25 hbox hb; have n0_ := M.bkB zae hb; have n1_ := M.upS HB hb; have n2_ := Aside0.mk (hbox); have n3_ := M.upG HB hg; have n4_ := M.upG HB hg; have n5_ := M.bkL zae hg; have n6_ := M.bkG zae hg; clear zae HB; have zae := n0_; have HB := n1_; have zaM := n2_; have zaN := n3_; have zaO := n4_; have zaP := n5_; have zaQ := n6_; clear n0_ n1_ n2_ n3_ n4_ n5_ n6_; clear hb hbox hg; have zaR := zaQ.out; have zaS := zaP.out; obtain ⟨zaT, zaU⟩ := M.bc2 (w := w25) (a := .string (⟨#[]⟩ : ByteArray)) (b := .string (⟨#[]⟩ : ByteArray)) zaM.out; obtain ⟨zaV, zaW⟩ := M.bf2 zaM; obtain ⟨zaX, zaY, zaZ⟩ := M.bc3 (w := w25) (a := .int .i64 a0_0) (b := .slice (some ad109) l0_1.length c0_1) (c := .slice A0_2 l0_2.length c0_2) zae.out; obtain ⟨za0, za1, za2⟩ := M.bf3 zae) | (go_at_call 37; (with_reducible refine (chunk_fits.calls a0_0 ((rd_T29 l0_1 x27_2).f0) ((rd_T29 l0_1 x27_2).f1) true _ A18.out).mono ?_); rintro e w29 ⟨rfl, hb⟩; have n0_ := Aside0.mk (blk_below (g := zad) (o := .cells #[.int .i64 a0_0, .slice (some ad109) l0_1.length c0_1, .slice A0_2 l0_2.length c0_2] 25 (0, 0)) (by (with_reducible repeat (first | refine blk_drewN ?_ _ | refine blk_drew ?_ | refine blk_alloc ?_ _)); refine blk_far ?_ zaP.out _; (with_reducible repeat (first | refine blk_drewN ?_ _ | refine blk_drew ?_ | refine blk_alloc ?_ _)); refine blk_far ?_ zaP.out _; (with_reducible repeat (first | refine blk_drewN ?_ _ | refine blk_drew ?_ | refine blk_alloc ?_ _)); exact zae.out) hb); have n1_ := Aside0.mk (blk_below (g := zaL) (o := .cells #[.string ((rd_T29 l0_1 x27_2).f0), .string ((rd_T29 l0_1 x27_2).f1)] 29 (0, 0)) (by (with_reducible repeat (first | refine blk_drewN ?_ _ | refine blk_drew ?_ | refine blk_alloc ?_ _)); refine blk_put (cs := #[.string ((rd_T29 l0_1 x27_2).f0), .string (⟨#[]⟩ : ByteArray)]) ?_ 1 _ rfl; (with_reducible repeat (first | refine blk_drewN ?_ _ | refine blk_drew ?_ | refine blk_alloc ?_ _)); refine blk_put (cs := #[.string (⟨#[]⟩ : ByteArray), .string (⟨#[]⟩ : ByteArray)]) ?_ 0 _ rfl; (with_reducible repeat (first | refine blk_drewN ?_ _ | refine blk_drew ?_ | refine blk_alloc ?_ _)); exact zaM.out) hb); have n2_ := M.upS HB hb; clear zae zaM HB; have zae := n0_; have zaM := n1_; have HB := n2_; clear n0_ n1_ n2_; (try clear hb); (try clear hb2); (try clear hk); (try clear hi); obtain ⟨za3, za4, za5⟩ := M.bc3 (w := w29) (a := .int .i64 a0_0) (b := .slice (some ad109) l0_1.length c0_1) (c := .slice A0_2 l0_2.length c0_2) zae.out; obtain ⟨za6, za7, za8⟩ := M.bf3 zae; have p112 : 0 ≤ ((ji21) : Int) := of_decide_eq_true (by first | (with_reducible assumption) | assumption); have q112 : (ji21) < (l0_1.length : Int) := of_decide_eq_true (by first | (with_reducible assumption) | assumption); obtain ⟨ad112, e112, hx112_0, hx112_1⟩ := at_T29 HR0_1.out (ji21) p112 q112; obtain rfl : ad109 = ad112 := (by injection e112); replace hx112_0 := (HB.out.cell (World.block_lt_of_cell? w _ hx112_0)).trans hx112_0; replace hx112_1 := (HB.out.cell (World.block_lt_of_cell? w _ hx112_1)).trans hx112_1; replace p112 := eq_true p112; replace q112 := eq_true q112; obtain ⟨za9, zba⟩ := M.bc2 (w := w29) (a := .string ((rd_T29 l0_1 x27_2).f0)) (b := .string ((rd_T29 l0_1 x27_2).f1)) zaM.out; obtain ⟨zbb, zbc⟩ := M.bf2 zaM)))
                            go_roundg k2
                            case measure => have := HJ1.out; have := HK2.out; omega
                            case rel => exact ⟨(wrap64 (x27_2 + 1)), (by first | rfl | (simp; done) | (simp [*]; done) | (simp [M.isEmpty_bne]; done)), H', ⟨by have := HJ1.out; have := HK2.out; omega⟩, ⟨by (with_reducible repeat (first | refine blk_drewN ?_ _ | refine blk_drew ?_ | refine blk_alloc ?_ _)); exact zae.out⟩, ⟨M.up HB⟩⟩
                          · rw [if_neg c24] at H
                            have c24b0 : (Op.bytesLess (((rd_T29 l0_1 (ji21)).f0).toList) (((rd_T29 l0_1 x27_2).f0).toList)) = false := by simpa using c24
                            clear c24
                            obtain rfl := Option.some.inj H
                            have p109 : 0 ≤ (x27_2 : Int) := of_decide_eq_true (by first | (with_reducible assumption) | assumption)
                            have q109 : x27_2 < (l0_1.length : Int) := of_decide_eq_true (by first | (with_reducible assumption) | assumption)
                            obtain ⟨ad109, e109, hx109_0, hx109_1⟩ := at_T29 HR0_1.out x27_2 p109 q109
                            cases e109
                            replace hx109_0 := (HB.out.cell (World.block_lt_of_cell? w _ hx109_0)).trans hx109_0
                            replace hx109_1 := (HB.out.cell (World.block_lt_of_cell? w _ hx109_1)).trans hx109_1
                            replace p109 := eq_true p109
                            replace q109 := eq_true q109
                            go_wp2_with (first | ((with_reducible refine gate_dst (N := 4) rfl ?_); (try (refine gate_guard (by rfl) ?_; dsimp only)); refine box_event ?hg (N := 4) ?hd (cs := #[.string (⟨#[]⟩ : ByteArray), .string (⟨#[]⟩ : ByteArray)]) (t := 29) ?hr ?_; (case hd => rfl); (case hg => rfl); (case hr => first | (go_simp; done) | (go_simp; rfl)); intro zaL hg w32 hbox hb; have n0_ := M.bkB zae hb; have n1_ := M.upS HB hb; have n2_ := Aside0.mk (hbox); have n3_ := M.upG HB hg; have n4_ := M.upG HB hg; have n5_ := M.bkL zae hg; have n6_ := M.bkG zae hg; clear zae HB; have zae := n0_; have HB := n1_; have zaM := n2_; have zaN := n3_; have zaO := n4_; have zaP := n5_; have zaQ := n6_; clear n0_ n1_ n2_ n3_ n4_ n5_ n6_; clear hb hbox hg; have zbd := zaQ.out; have zbe := zaP.out; obtain ⟨zbf, zbg⟩ := M.bc2 (w := w32) (a := .string (⟨#[]⟩ : ByteArray)) (b := .string (⟨#[]⟩ : ByteArray)) zaM.out; obtain ⟨zbh, zbi⟩ := M.bf2 zaM; obtain ⟨zbj, zbk, zbl⟩ := M.bc3 (w := w32) (a := .int .i64 a0_0) (b := .slice (some ad109) l0_1.length c0_1) (c := .slice A0_2 l0_2.length c0_2) zae.out; obtain ⟨zbm, zbn, zbo⟩ := M.bf3 zae) | (go_at_call 37; (with_reducible refine (chunk_fits.calls a0_0 ((rd_T29 l0_1 x27_2).f0) ((rd_T29 l0_1 x27_2).f1) true _ A18.out).mono ?_); rintro e w36 ⟨rfl, hb⟩; have n0_ := Aside0.mk (blk_below (g := zad) (o := .cells #[.int .i64 a0_0, .slice (some ad109) l0_1.length c0_1, .slice A0_2 l0_2.length c0_2] 25 (0, 0)) (by (with_reducible repeat (first | refine blk_drewN ?_ _ | refine blk_drew ?_ | refine blk_alloc ?_ _)); refine blk_far ?_ zaP.out _; (with_reducible repeat (first | refine blk_drewN ?_ _ | refine blk_drew ?_ | refine blk_alloc ?_ _)); refine blk_far ?_ zaP.out _; (with_reducible repeat (first | refine blk_drewN ?_ _ | refine blk_drew ?_ | refine blk_alloc ?_ _)); exact zae.out) hb); have n1_ := Aside0.mk (blk_below (g := zaL) (o := .cells #[.string ((rd_T29 l0_1 x27_2).f0), .string ((rd_T29 l0_1 x27_2).f1)] 29 (0, 0)) (by (with_reducible repeat (first | refine blk_drewN ?_ _ | refine blk_drew ?_ | refine blk_alloc ?_ _)); refine blk_put (cs := #[.string ((rd_T29 l0_1 x27_2).f0), .string (⟨#[]⟩ : ByteArray)]) ?_ 1 _ rfl; (with_reducible repeat (first | refine blk_drewN ?_ _ | refine blk_drew ?_ | refine blk_alloc ?_ _)); refine blk_put (cs := #[.string (⟨#[]⟩ : ByteArray), .string (⟨#[]⟩ : ByteArray)]) ?_ 0 _ rfl; (with_reducible repeat (first | refine blk_drewN ?_ _ | refine blk_drew ?_ | refine blk_alloc ?_ _)); exact zaM.out) hb); have n2_ := M.upS HB hb; clear zae zaM HB; have zae := n0_; have zaM := n1_; have HB := n2_; clear n0_ n1_ n2_; (try clear hb); (try clear hb2); (try clear hk); (try clear hi); obtain ⟨zbp, zbq, zbr⟩ := M.bc3 (w := w36) (a := .int .i64 a0_0) (b := .slice (some ad109) l0_1.length c0_1) (c := .slice A0_2 l0_2.length c0_2) zae.out; obtain ⟨zbs, zbt, zbu⟩ := M.bf3 zae; have p112 : 0 ≤ ((ji21) : Int) := of_decide_eq_true (by first | (with_reducible assumption) | assumption); have q112 : (ji21) < (l0_1.length : Int) := of_decide_eq_true (by first | (with_reducible assumption) | assumption); obtain ⟨ad112, e112, hx112_0, hx112_1⟩ := at_T29 HR0_1.out (ji21) p112 q112; obtain rfl : ad109 = ad112 := (by injection e112); replace hx112_0 := (HB.out.cell (World.block_lt_of_cell? w _ hx112_0)).trans hx112_0; replace hx112_1 := (HB.out.cell (World.block_lt_of_cell? w _ hx112_1)).trans hx112_1; replace p112 := eq_true p112; replace q112 := eq_true q112; obtain ⟨zbv, zbw⟩ := M.bc2 (w := w36) (a := .string ((rd_T29 l0_1 x27_2).f0)) (b := .string ((rd_T29 l0_1 x27_2).f1)) zaM.out; obtain ⟨zbx, zby⟩ := M.bf2 zaM))
                            repeat (go_quiet (first | ((with_reducible refine gate_dst (N := 4) rfl ?_); (try (refine gate_guard (by rfl) ?_; dsimp only)); refine box_event ?hg (N := 4) ?hd (cs := #[.string (⟨#[]⟩ : ByteArray), .string (⟨#[]⟩ : ByteArray)]) (t := 29) ?hr ?_; (case hd => rfl); (case hg => rfl); (case hr => first | (go_simp; done) | (go_simp; rfl)); intro zaL hg w32 hbox hb; have n0_ := M.bkB zae hb; have n1_ := M.upS HB hb; have n2_ := Aside0.mk (hbox); have n3_ := M.upG HB hg; have n4_ := M.upG HB hg; have n5_ := M.bkL zae hg; have n6_ := M.bkG zae hg; clear zae HB; have zae := n0_; have HB := n1_; have zaM := n2_; have zaN := n3_; have zaO := n4_; have zaP := n5_; have zaQ := n6_; clear n0_ n1_ n2_ n3_ n4_ n5_ n6_; clear hb hbox hg; have zbd := zaQ.out; have zbe := zaP.out; obtain ⟨zbf, zbg⟩ := M.bc2 (w := w32) (a := .string (⟨#[]⟩ : ByteArray)) (b := .string (⟨#[]⟩ : ByteArray)) zaM.out; obtain ⟨zbh, zbi⟩ := M.bf2 zaM; obtain ⟨zbj, zbk, zbl⟩ := M.bc3 (w := w32) (a := .int .i64 a0_0) (b := .slice (some ad109) l0_1.length c0_1) (c := .slice A0_2 l0_2.length c0_2) zae.out; obtain ⟨zbm, zbn, zbo⟩ := M.bf3 zae) | (go_at_call 37; (with_reducible refine (chunk_fits.calls a0_0 ((rd_T29 l0_1 x27_2).f0) ((rd_T29 l0_1 x27_2).f1) true _ A18.out).mono ?_); rintro e w36 ⟨rfl, hb⟩; have n0_ := Aside0.mk (blk_below (g := zad) (o := .cells #[.int .i64 a0_0, .slice (some ad109) l0_1.length c0_1, .slice A0_2 l0_2.length c0_2] 25 (0, 0)) (by (with_reducible repeat (first | refine blk_drewN ?_ _ | refine blk_drew ?_ | refine blk_alloc ?_ _)); refine blk_far ?_ zaP.out _; (with_reducible repeat (first | refine blk_drewN ?_ _ | refine blk_drew ?_ | refine blk_alloc ?_ _)); refine blk_far ?_ zaP.out _; (with_reducible repeat (first | refine blk_drewN ?_ _ | refine blk_drew ?_ | refine blk_alloc ?_ _)); exact zae.out) hb); have n1_ := Aside0.mk (blk_below (g := zaL) (o := .cells #[.string ((rd_T29 l0_1 x27_2).f0), .string ((rd_T29 l0_1 x27_2).f1)] 29 (0, 0)) (by (with_reducible repeat (first | refine blk_drewN ?_ _ | refine blk_drew ?_ | refine blk_alloc ?_ _)); refine blk_put (cs := #[.string ((rd_T29 l0_1 x27_2).f0), .string (⟨#[]⟩ : ByteArray)]) ?_ 1 _ rfl; (with_reducible repeat (first | refine blk_drewN ?_ _ | refine blk_drew ?_ | refine blk_alloc ?_ _)); refine blk_put (cs := #[.string (⟨#[]⟩ : ByteArray), .string (⟨#[]⟩ : ByteArray)]) ?_ 0 _ rfl; (with_reducible repeat (first | refine blk_drewN ?_ _ | refine blk_drew ?_ | refine blk_alloc ?_ _)); exact zaM.out) hb); have n2_ := M.upS HB hb; clear zae zaM HB; have zae := n0_; have zaM := n1_; have HB := n2_; clear n0_ n1_ n2_; (try clear hb); (try clear hb2); (try clear hk); (try clear hi); obtain ⟨zbp, zbq, zbr⟩ := M.bc3 (w := w36) (a := .int .i64 a0_0) (b := .slice (some ad109) l0_1.length c0_1) (c := .slice A0_2 l0_2.length c0_2) zae.out; obtain ⟨zbs, zbt, zbu⟩ := M.bf3 zae; have p112 : 0 ≤ ((ji21) : Int) := of_decide_eq_true (by first | (with_reducible assumption) | assumption); have q112 : (ji21) < (l0_1.length : Int) := of_decide_eq_true (by first | (with_reducible assumption) | assumption); obtain ⟨ad112, e112, hx112_0, hx112_1⟩ := at_T29 HR0_1.out (ji21) p112 q112; obtain rfl : ad109 = ad112 := (by injection e112); replace hx112_0 := (HB.out.cell (World.block_lt_of_cell? w _ hx112_0)).trans hx112_0; replace hx112_1 := (HB.out.cell (World.block_lt_of_cell? w _ hx112_1)).trans hx112_1; replace p112 := eq_true p112; replace q112 := eq_true q112; obtain ⟨zbv, zbw⟩ := M.bc2 (w := w36) (a := .string ((rd_T29 l0_1 x27_2).f0)) (b := .string ((rd_T29 l0_1 x27_2).f1)) zaM.out; obtain ⟨zbx, zby⟩ := M.bf2 zaM)); try go_wp2_with (first | ((with_reducible refine gate_dst (N := 4) rfl ?_); (try (refine gate_guard (by rfl) ?_; dsimp only)); refine box_event ?hg (N := 4) ?hd (cs := #[.string (⟨#[]⟩ : ByteArray), .string (⟨#[]⟩ : ByteArray)]) (t := 29) ?hr ?_; (case hd => rfl); (case hg => rfl); (case hr => first | (go_simp; done) | (go_simp; rfl)); intro zaL hg w32 hbox hb; have n0_ := M.bkB zae hb; have n1_ := M.upS HB hb; have n2_ := Aside0.mk (hbox); have n3_ := M.upG HB hg; have n4_ := M.upG HB hg; have n5_ := M.bkL zae hg; have n6_ := M.bkG zae hg; clear zae HB; have zae := n0_; have HB := n1_; have zaM := n2_; have zaN := n3_; have zaO := n4_; have zaP := n5_; have zaQ := n6_; clear n0_ n1_ n2_ n3_ n4_ n5_ n6_; clear hb hbox hg; have zbd := zaQ.out; have zbe := zaP.out; obtain ⟨zbf, zbg⟩ := M.bc2 (w := w32) (a := .string (⟨#[]⟩ : ByteArray)) (b := .string (⟨#[]⟩ : ByteArray)) zaM.out; obtain ⟨zbh, zbi⟩ := M.bf2 zaM; obtain ⟨zbj, zbk, zbl⟩ := M.bc3 (w := w32) (a := .int .i64 a0_0) (b := .slice (some ad109) l0_1.length c0_1) (c := .slice A0_2 l0_2.length c0_2) zae.out; obtain ⟨zbm, zbn, zbo⟩ := M.bf3 zae) | (go_at_call 37; (with_reducible refine (chunk_fits.calls a0_0 ((rd_T29 l0_1 x27_2).f0) ((rd_T29 l0_1 x27_2).f1) true _ A18.out).mono ?_); rintro e w36 ⟨rfl, hb⟩; have n0_ := Aside0.mk (blk_below (g := zad) (o := .cells #[.int .i64 a0_0, .slice (some ad109) l0_1.length c0_1, .slice A0_2 l0_2.length c0_2] 25 (0, 0)) (by (with_reducible repeat (first | refine blk_drewN ?_ _ | refine blk_drew ?_ | refine blk_alloc ?_ _)); refine blk_far ?_ zaP.out _; (with_reducible repeat (first | refine blk_drewN ?_ _ | refine blk_drew ?_ | refine blk_alloc ?_ _)); refine blk_far ?_ zaP.out _; (with_reducible repeat (first | refine blk_drewN ?_ _ | refine blk_drew ?_ | refine blk_alloc ?_ _)); exact zae.out) hb); have n1_ := Aside0.mk (blk_below (g := zaL) (o := .cells #[.string ((rd_T29 l0_1 x27_2).f0), .string ((rd_T29 l0_1 x27_2).f1)] 29 (0, 0)) (by (with_reducible repeat (first | refine blk_drewN ?_ _ | refine blk_drew ?_ | refine blk_alloc ?_ _)); refine blk_put (cs := #[.string ((rd_T29 l0_1 x27_2).f0), .string (⟨#[]⟩ : ByteArray)]) ?_ 1 _ rfl; (with_reducible repeat (first | refine blk_drewN ?_ _ | refine blk_drew ?_ | refine blk_alloc ?_ _)); refine blk_put (cs := #[.string (⟨#[]⟩ : ByteArray), .string (⟨#[]⟩ : ByteArray)]) ?_ 0 _ rfl; (with_reducible repeat (first | refine blk_drewN ?_ _ | refine blk_drew ?_ | refine blk_alloc ?_ _)); exact zaM.out) hb); have n2_ := M.upS HB hb; clear zae zaM HB; have zae := n0_; have zaM := n1_; have HB := n2_; clear n0_ n1_ n2_; (try clear hb); (try clear hb2); (try clear hk); (try clear hi); obtain ⟨zbp, zbq, zbr⟩ := M.bc3 (w := w36) (a := .int .i64 a0_0) (b := .slice (some ad109) l0_1.length c0_1) (c := .slice A0_2 l0_2.length c0_2) zae.out; obtain ⟨zbs, zbt, zbu⟩ := M.bf3 zae; have p112 : 0 ≤ ((ji21) : Int) := of_decide_eq_true (by first | (with_reducible assumption) | assumption); have q112 : (ji21) < (l0_1.length : Int) := of_decide_eq_true (by first | (with_reducible assumption) | assumption); obtain ⟨ad112, e112, hx112_0, hx112_1⟩ := at_T29 HR0_1.out (ji21) p112 q112; obtain rfl : ad109 = ad112 := (by injection e112); replace hx112_0 := (HB.out.cell (World.block_lt_of_cell? w _ hx112_0)).trans hx112_0; replace hx112_1 := (HB.out.cell (World.block_lt_of_cell? w _ hx112_1)).trans hx112_1; replace p112 := eq_true p112; replace q112 := eq_true q112; obtain ⟨zbv, zbw⟩ := M.bc2 (w := w36) (a := .string ((rd_T29 l0_1 x27_2).f0)) (b := .string ((rd_T29 l0_1 x27_2).f1)) zaM.out; obtain ⟨zbx, zby⟩ := M.bf2 zaM)))
                            go_ret
                            exact ⟨by first | rfl | (simp [errW_none, errW_some] <;> rfl) | (simp only [← hji21]; first | rfl | (simp [errW_none, errW_some] <;> rfl)) | (simp [*, errW_none, errW_some] <;> rfl), M.up HB⟩
                        · rw [if_neg c23] at H
                          exact absurd H (by simp)
                      · rw [if_neg c22] at H
                        exact absurd H (by simp)
                    · rw [if_neg c20] at H
                      have c20b0 : decide (0 < x27_2) = false := decide_eq_false c20
                      clear c20
                      have H' := Aside0.mk H
                      clear H
                      have p109 : 0 ≤ (x27_2 : Int) := of_decide_eq_true (by first | (with_reducible assumption) | assumption)
                      have q109 : x27_2 < (l0_1.length : Int) := of_decide_eq_true (by first | (with_reducible assumption) | assumption)
                      obtain ⟨ad109, e109, hx109_0, hx109_1⟩ := at_T29 HR0_1.out x27_2 p109 q109
                      cases e109
                      replace hx109_0 := (HB.out.cell (World.block_lt_of_cell? w _ hx109_0)).trans hx109_0
                      replace hx109_1 := (HB.out.cell (World.block_lt_of_cell? w _ hx109_1)).trans hx109_1
                      replace p109 := eq_true p109
                      replace q109 := eq_true q109
                      go_wp2_with (first | ((with_reducible refine gate_dst (N := 4) rfl ?_); (try (refine gate_guard (by rfl) ?_; dsimp only)); refine box_event ?hg (N := 4) ?hd (cs := #[.string (⟨#[]⟩ : ByteArray), .string (⟨#[]⟩ : ByteArray)]) (t := 29) ?hr ?_; (case hd => rfl); (case hg => rfl); (case hr => first | (go_simp; done) | (go_simp; rfl)); intro zaL hg w39 hbox hb; have n0_ := M.bkB zae hb; have n1_ := M.upS HB hb; have n2_ := Aside0.mk (hbox); have n3_ := M.upG HB hg; have n4_ := M.upG HB hg; have n5_ := M.bkL zae hg; have n6_ := M.bkG zae hg; clear zae HB; have zae := n0_; have HB := n1_; have zaM := n2_; have zaN := n3_; have zaO := n4_; have zaP := n5_; have zaQ := n6_; clear n0_ n1_ n2_ n3_ n4_ n5_ n6_; clear hb hbox hg; have zbz := zaQ.out; have zbA := zaP.out; obtain ⟨zbB, zbC⟩ := M.bc2 (w := w39) (a := .string (⟨#[]⟩ : ByteArray)) (b := .string (⟨#[]⟩ : ByteArray)) zaM.out; obtain ⟨zbD, zbE⟩ := M.bf2 zaM; obtain ⟨zbF, zbG, zbH⟩ := M.bc3 (w := w39) (a := .int .i64 a0_0) (b := .slice (some ad109) l0_1.length c0_1) (c := .slice A0_2 l0_2.length c0_2) zae.out; obtain ⟨zbI, zbJ, zbK⟩ := M.bf3 zae) | (go_at_call 37; (with_reducible refine (chunk_fits.calls a0_0 ((rd_T29 l0_1 x27_2).f0) ((rd_T29 l0_1 x27_2).f1) true _ A18.out).mono ?_); rintro e w43 ⟨rfl, hb⟩; have n0_ := Aside0.mk (blk_below (g := zad) (o := .cells #[.int .i64 a0_0, .slice (some ad109) l0_1.length c0_1, .slice A0_2 l0_2.length c0_2] 25 (0, 0)) (by (with_reducible repeat (first | refine blk_drewN ?_ _ | refine blk_drew ?_ | refine blk_alloc ?_ _)); refine blk_far ?_ zaP.out _; (with_reducible repeat (first | refine blk_drewN ?_ _ | refine blk_drew ?_ | refine blk_alloc ?_ _)); refine blk_far ?_ zaP.out _; (with_reducible repeat (first | refine blk_drewN ?_ _ | refine blk_drew ?_ | refine blk_alloc ?_ _)); exact zae.out) hb); have n1_ := Aside0.mk (blk_below (g := zaL) (o := .cells #[.string ((rd_T29 l0_1 x27_2).f0), .string ((rd_T29 l0_1 x27_2).f1)] 29 (0, 0)) (by (with_reducible repeat (first | refine blk_drewN ?_ _ | refine blk_drew ?_ | refine blk_alloc ?_ _)); refine blk_put (cs := #[.string ((rd_T29 l0_1 x27_2).f0), .string (⟨#[]⟩ : ByteArray)]) ?_ 1 _ rfl; (with_reducible repeat (first | refine blk_drewN ?_ _ | refine blk_drew ?_ | refine blk_alloc ?_ _)); refine blk_put (cs := #[.string (⟨#[]⟩ : ByteArray), .string (⟨#[]⟩ : ByteArray)]) ?_ 0 _ rfl; (with_reducible repeat (first | refine blk_drewN ?_ _ | refine blk_drew ?_ | refine blk_alloc ?_ _)); exact zaM.out) hb); have n2_ := M.upS HB hb; clear zae zaM HB; have zae := n0_; have zaM := n1_; have HB := n2_; clear n0_ n1_ n2_; (try clear hb); (try clear hb2); (try clear hk); (try clear hi)))
                      repeat (go_quiet (first | ((with_reducible refine gate_dst (N := 4) rfl ?_); (try (refine gate_guard (by rfl) ?_; dsimp only)); refine box_event ?hg (N := 4) ?hd (cs := #[.string (⟨#[]⟩ : ByteArray), .string (⟨#[]⟩ : ByteArray)]) (t := 29) ?hr ?_; (case hd => rfl); (case hg => rfl); (case hr => first | (go_simp; done) | (go_simp; rfl)); intro zaL hg w39 hbox hb; have n0_ := M.bkB zae hb; have n1_ := M.upS HB hb; have n2_ := Aside0.mk (hbox); have n3_ := M.upG HB hg; have n4_ := M.upG HB hg; have n5_ := M.bkL zae hg; have n6_ := M.bkG zae hg; clear zae HB; have zae := n0_; have HB := n1_; have zaM := n2_; have zaN := n3_; have zaO := n4_; have zaP := n5_; have zaQ := n6_; clear n0_ n1_ n2_ n3_ n4_ n5_ n6_; clear hb hbox hg; have zbz := zaQ.out; have zbA := zaP.out; obtain ⟨zbB, zbC⟩ := M.bc2 (w := w39) (a := .string (⟨#[]⟩ : ByteArray)) (b := .string (⟨#[]⟩ : ByteArray)) zaM.out; obtain ⟨zbD, zbE⟩ := M.bf2 zaM; obtain ⟨zbF, zbG, zbH⟩ := M.bc3 (w := w39) (a := .int .i64 a0_0) (b := .slice (some ad109) l0_1.length c0_1) (c := .slice A0_2 l0_2.length c0_2) zae.out; obtain ⟨zbI, zbJ, zbK⟩ := M.bf3 zae) | (go_at_call 37; (with_reducible refine (chunk_fits.calls a0_0 ((rd_T29 l0_1 x27_2).f0) ((rd_T29 l0_1 x27_2).f1) true _ A18.out).mono ?_); rintro e w43 ⟨rfl, hb⟩; have n0_ := Aside0.mk (blk_below (g := zad) (o := .cells #[.int .i64 a0_0, .slice (some ad109) l0_1.length c0_1, .slice A0_2 l0_2.length c0_2] 25 (0, 0)) (by (with_reducible repeat (first | refine blk_drewN ?_ _ | refine blk_drew ?_ | refine blk_alloc ?_ _)); refine blk_far ?_ zaP.out _; (with_reducible repeat (first | refine blk_drewN ?_ _ | refine blk_drew ?_ | refine blk_alloc ?_ _)); refine blk_far ?_ zaP.out _; (with_reducible repeat (first | refine blk_drewN ?_ _ | refine blk_drew ?_ | refine blk_alloc ?_ _)); exact zae.out) hb); have n1_ := Aside0.mk (blk_below (g := zaL) (o := .cells #[.string ((rd_T29 l0_1 x27_2).f0), .string ((rd_T29 l0_1 x27_2).f1)] 29 (0, 0)) (by (with_reducible repeat (first | refine blk_drewN ?_ _ | refine blk_drew ?_ | refine blk_alloc ?_ _)); refine blk_put (cs := #[.string ((rd_T29 l0_1 x27_2).f0), .string (⟨#[]⟩ : ByteArray)]) ?_ 1 _ rfl; (with_reducible repeat (first | refine blk_drewN ?_ _ | refine blk_drew ?_ | refine blk_alloc ?_ _)); refine blk_put (cs := #[.string (⟨#[]⟩ : ByteArray), .string (⟨#[]⟩ : ByteArray)]) ?_ 0 _ rfl; (with_reducible repeat (first | refine blk_drewN ?_ _ | refine blk_drew ?_ | refine blk_alloc ?_ _)); exact zaM.out) hb); have n2_ := M.upS HB hb; clear zae zaM HB; have zae := n0_; have zaM := n1_; have HB := n2_; clear n0_ n1_ n2_; (try clear hb); (try clear hb2); (try clear hk); (try clear hi))); try go_wp2_with (first | ((with_reducible refine gate_dst (N := 4) rfl ?_); (try (refine gate_guard (by rfl) ?_; dsimp only)); refine box_event ?hg (N := 4) ?hd (cs := #[.string (⟨#[]⟩ : ByteArray), .string (⟨#[]⟩ : ByteArray)]) (t := 29) ?hr ?_; (case hd => rfl); (case hg => rfl); (case hr => first | (go_simp; done) | (go_simp; rfl)); intro zaL hg w39 hbox hb; have n0_ := M.bkB zae hb; have n1_ := M.upS HB hb; have n2_ := Aside0.mk (hbox); have n3_ := M.upG HB hg; have n4_ := M.upG HB hg; have n5_ := M.bkL zae hg; have n6_ := M.bkG zae hg; clear zae HB; have zae := n0_; have HB := n1_; have zaM := n2_; have zaN := n3_; have zaO := n4_; have zaP := n5_; have zaQ := n6_; clear n0_ n1_ n2_ n3_ n4_ n5_ n6_; clear hb hbox hg; have zbz := zaQ.out; have zbA := zaP.out; obtain ⟨zbB, zbC⟩ := M.bc2 (w := w39) (a := .string (⟨#[]⟩ : ByteArray)) (b := .string (⟨#[]⟩ : ByteArray)) zaM.out; obtain ⟨zbD, zbE⟩ := M.bf2 zaM; obtain ⟨zbF, zbG, zbH⟩ := M.bc3 (w := w39) (a := .int .i64 a0_0) (b := .slice (some ad109) l0_1.length c0_1) (c := .slice A0_2 l0_2.length c0_2) zae.out; obtain ⟨zbI, zbJ, zbK⟩ := M.bf3 zae) | (go_at_call 37; (with_reducible refine (chunk_fits.calls a0_0 ((rd_T29 l0_1 x27_2).f0) ((rd_T29 l0_1 x27_2).f1) true _ A18.out).mono ?_); rintro e w43 ⟨rfl, hb⟩; have n0_ := Aside0.mk (blk_below (g := zad) (o := .cells #[.int .i64 a0_0, .slice (some ad109) l0_1.length c0_1, .slice A0_2 l0_2.length c0_2] 25 (0, 0)) (by (with_reducible repeat (first | refine blk_drewN ?_ _ | refine blk_drew ?_ | refine blk_alloc ?_ _)); refine blk_far ?_ zaP.out _; (with_reducible repeat (first | refine blk_drewN ?_ _ | refine blk_drew ?_ | refine blk_alloc ?_ _)); refine blk_far ?_ zaP.out _; (with_reducible repeat (first | refine blk_drewN ?_ _ | refine blk_drew ?_ | refine blk_alloc ?_ _)); exact zae.out) hb); have n1_ := Aside0.mk (blk_below (g := zaL) (o := .cells #[.string ((rd_T29 l0_1 x27_2).f0), .string ((rd_T29 l0_1 x27_2).f1)] 29 (0, 0)) (by (with_reducible repeat (first | refine blk_drewN ?_ _ | refine blk_drew ?_ | refine blk_alloc ?_ _)); refine blk_put (cs := #[.string ((rd_T29 l0_1 x27_2).f0), .string (⟨#[]⟩ : ByteArray)]) ?_ 1 _ rfl; (with_reducible repeat (first | refine blk_drewN ?_ _ | refine blk_drew ?_ | refine blk_alloc ?_ _)); refine blk_put (cs := #[.string (⟨#[]⟩ : ByteArray), .string (⟨#[]⟩ : ByteArray)]) ?_ 0 _ rfl; (with_reducible repeat (first | refine blk_drewN ?_ _ | refine blk_drew ?_ | refine blk_alloc ?_ _)); exact zaM.out) hb); have n2_ := M.upS HB hb; clear zae zaM HB; have zae := n0_; have zaM := n1_; have HB := n2_; clear n0_ n1_ n2_; (try clear hb); (try clear hb2); (try clear hk); (try clear hi))))
                      go_roundg k2
                      case measure => have := HJ1.out; have := HK2.out; omega
                      case rel => exact ⟨(wrap64 (x27_2 + 1)), (by first | rfl | (simp; done) | (simp [*]; done) | (simp [M.isEmpty_bne]; done)), H', ⟨by have := HJ1.out; have := HK2.out; omega⟩, ⟨by (with_reducible repeat (first | refine blk_drewN ?_ _ | refine blk_drew ?_ | refine blk_alloc ?_ _)); exact zae.out⟩, ⟨M.up HB⟩⟩
                  · replace c19 := Bool.eq_false_iff.mpr c19
                    subst c19
                    have H1 : (some 2) = some r := by rw [if_neg (show ¬ (false = true) by decide)] at H; exact H
                    clear H
                    have H := H1
                    clear H1
                    obtain rfl := Option.some.inj H
                    have p109 : 0 ≤ (x27_2 : Int) := of_decide_eq_true (by first | (with_reducible assumption) | assumption)
                    have q109 : x27_2 < (l0_1.length : Int) := of_decide_eq_true (by first | (with_reducible assumption) | assumption)
                    obtain ⟨ad109, e109, hx109_0, hx109_1⟩ := at_T29 HR0_1.out x27_2 p109 q109
                    cases e109
                    replace hx109_0 := (HB.out.cell (World.block_lt_of_cell? w _ hx109_0)).trans hx109_0
                    replace hx109_1 := (HB.out.cell (World.block_lt_of_cell? w _ hx109_1)).trans hx109_1
                    replace p109 := eq_true p109
                    replace q109 := eq_true q109
                    go_wp2_with (first | ((with_reducible refine gate_dst (N := 4) rfl ?_); (try (refine gate_guard (by rfl) ?_; dsimp only)); refine box_event ?hg (N := 4) ?hd (cs := #[.string (⟨#[]⟩ : ByteArray), .string (⟨#[]⟩ : ByteArray)]) (t := 29) ?hr ?_; (case hd => rfl); (case hg => rfl); (case hr => first | (go_simp; done) | (go_simp; rfl)); intro zaL hg w44 hbox hb; have n0_ := M.bkB zae hb; have n1_ := M.upS HB hb; have n2_ := Aside0.mk (hbox); have n3_ := M.upG HB hg; have n4_ := M.upG HB hg; have n5_ := M.bkL zae hg; have n6_ := M.bkG zae hg; clear zae HB; have zae := n0_; have HB := n1_; have zaM := n2_; have zaN := n3_; have zaO := n4_; have zaP := n5_; have zaQ := n6_; clear n0_ n1_ n2_ n3_ n4_ n5_ n6_; clear hb hbox hg; have zbL := zaQ.out; have zbM := zaP.out; obtain ⟨zbN, zbO⟩ := M.bc2 (w := w44) (a := .string (⟨#[]⟩ : ByteArray)) (b := .string (⟨#[]⟩ : ByteArray)) zaM.out; obtain ⟨zbP, zbQ⟩ := M.bf2 zaM; obtain ⟨zbR, zbS, zbT⟩ := M.bc3 (w := w44) (a := .int .i64 a0_0) (b := .slice (some ad109) l0_1.length c0_1) (c := .slice A0_2 l0_2.length c0_2) zae.out; obtain ⟨zbU, zbV, zbW⟩ := M.bf3 zae) | (go_at_call 37; (with_reducible refine (chunk_fits.calls a0_0 ((rd_T29 l0_1 x27_2).f0) ((rd_T29 l0_1 x27_2).f1) false _ A18.out).mono ?_); rintro e w48 ⟨rfl, hb⟩; have n0_ := Aside0.mk (blk_below (g := zad) (o := .cells #[.int .i64 a0_0, .slice (some ad109) l0_1.length c0_1, .slice A0_2 l0_2.length c0_2] 25 (0, 0)) (by (with_reducible repeat (first | refine blk_drewN ?_ _ | refine blk_drew ?_ | refine blk_alloc ?_ _)); refine blk_far ?_ zaP.out _; (with_reducible repeat (first | refine blk_drewN ?_ _ | refine blk_drew ?_ | refine blk_alloc ?_ _)); refine blk_far ?_ zaP.out _; (with_reducible repeat (first | refine blk_drewN ?_ _ | refine blk_drew ?_ | refine blk_alloc ?_ _)); exact zae.out) hb); have n1_ := Aside0.mk (blk_below (g := zaL) (o := .cells #[.string ((rd_T29 l0_1 x27_2).f0), .string ((rd_T29 l0_1 x27_2).f1)] 29 (0, 0)) (by (with_reducible repeat (first | refine blk_drewN ?_ _ | refine blk_drew ?_ | refine blk_alloc ?_ _)); refine blk_put (cs := #[.string ((rd_T29 l0_1 x27_2).f0), .string (⟨#[]⟩ : ByteArray)]) ?_ 1 _ rfl; (with_reducible repeat (first | refine blk_drewN ?_ _ | refine blk_drew ?_ | refine blk_alloc ?_ _)); refine blk_put (cs := #[.string (⟨#[]⟩ : ByteArray), .string (⟨#[]⟩ : ByteArray)]) ?_ 0 _ rfl; (with_reducible repeat (first | refine blk_drewN ?_ _ | refine blk_drew ?_ | refine blk_alloc ?_ _)); exact zaM.out) hb); have n2_ := M.upS HB hb; clear zae zaM HB; have zae := n0_; have zaM := n1_; have HB := n2_; clear n0_ n1_ n2_; (try clear hb); (try clear hb2); (try clear hk); (try clear hi)))
                    repeat (go_quiet (first | ((with_reducible refine gate_dst (N := 4) rfl ?_); (try (refine gate_guard (by rfl) ?_; dsimp only)); refine box_event ?hg (N := 4) ?hd (cs := #[.string (⟨#[]⟩ : ByteArray), .string (⟨#[]⟩ : ByteArray)]) (t := 29) ?hr ?_; (case hd => rfl); (case hg => rfl); (case hr => first | (go_simp; done) | (go_simp; rfl)); intro zaL hg w44 hbox hb; have n0_ := M.bkB zae hb; have n1_ := M.upS HB hb; have n2_ := Aside0.mk (hbox); have n3_ := M.upG HB hg; have n4_ := M.upG HB hg; have n5_ := M.bkL zae hg; have n6_ := M.bkG zae hg; clear zae HB; have zae := n0_; have HB := n1_; have zaM := n2_; have zaN := n3_; have zaO := n4_; have zaP := n5_; have zaQ := n6_; clear n0_ n1_ n2_ n3_ n4_ n5_ n6_; clear hb hbox hg; have zbL := zaQ.out; have zbM := zaP.out; obtain ⟨zbN, zbO⟩ := M.bc2 (w := w44) (a := .string (⟨#[]⟩ : ByteArray)) (b := .string (⟨#[]⟩ : ByteArray)) zaM.out; obtain ⟨zbP, zbQ⟩ := M.bf2 zaM; obtain ⟨zbR, zbS, zbT⟩ := M.bc3 (w := w44) (a := .int .i64 a0_0) (b := .slice (some ad109) l0_1.length c0_1) (c := .slice A0_2 l0_2.length c0_2) zae.out; obtain ⟨zbU, zbV, zbW⟩ := M.bf3 zae) | (go_at_call 37; (with_reducible refine (chunk_fits.calls a0_0 ((rd_T29 l0_1 x27_2).f0) ((rd_T29 l0_1 x27_2).f1) false _ A18.out).mono ?_); rintro e w48 ⟨rfl, hb⟩; have n0_ := Aside0.mk (blk_below (g := zad) (o := .cells #[.int .i64 a0_0, .slice (some ad109) l0_1.length c0_1, .slice A0_2 l0_2.length c0_2] 25 (0, 0)) (by (with_reducible repeat (first | refine blk_drewN ?_ _ | refine blk_drew ?_ | refine blk_alloc ?_ _)); refine blk_far ?_ zaP.out _; (with_reducible repeat (first | refine blk_drewN ?_ _ | refine blk_drew ?_ | refine blk_alloc ?_ _)); refine blk_far ?_ zaP.out _; (with_reducible repeat (first | refine blk_drewN ?_ _ | refine blk_drew ?_ | refine blk_alloc ?_ _)); exact zae.out) hb); have n1_ := Aside0.mk (blk_below (g := zaL) (o := .cells #[.string ((rd_T29 l0_1 x27_2).f0), .string ((rd_T29 l0_1 x27_2).f1)] 29 (0, 0)) (by (with_reducible repeat (first | refine blk_drewN ?_ _ | refine blk_drew ?_ | refine blk_alloc ?_ _)); refine blk_put (cs := #[.string ((rd_T29 l0_1 x27_2).f0), .string (⟨#[]⟩ : ByteArray)]) ?_ 1 _ rfl; (with_reducible repeat (first | refine blk_drewN ?_ _ | refine blk_drew ?_ | refine blk_alloc ?_ _)); refine blk_put (cs := #[.string (⟨#[]⟩ : ByteArray), .string (⟨#[]⟩ : ByteArray)]) ?_ 0 _ rfl; (with_reducible repeat (first | refine blk_drewN ?_ _ | refine blk_drew ?_ | refine blk_alloc ?_ _)); exact zaM.out) hb); have n2_ := M.upS HB hb; clear zae zaM HB; have zae := n0_; have zaM := n1_; have HB := n2_; clear n0_ n1_ n2_; (try clear hb); (try clear hb2); (try clear hk); (try clear hi))); try go_wp2_with (first | ((with_reducible refine gate_dst (N := 4) rfl ?_); (try (refine gate_guard (by rfl) ?_; dsimp only)); refine box_event ?hg (N := 4) ?hd (cs := #[.string (⟨#[]⟩ : ByteArray), .string (⟨#[]⟩ : ByteArray)]) (t := 29) ?hr ?_; (case hd => rfl); (case hg => rfl); (case hr => first | (go_simp; done) | (go_simp; rfl)); intro zaL hg w44 hbox hb; have n0_ := M.bkB zae hb; have n1_ := M.upS HB hb; have n2_ := Aside0.mk (hbox); have n3_ := M.upG HB hg; have n4_ := M.upG HB hg; have n5_ := M.bkL zae hg; have n6_ := M.bkG zae hg; clear zae HB; have zae := n0_; have HB := n1_; have zaM := n2_; have zaN := n3_; have zaO := n4_; have zaP := n5_; have zaQ := n6_; clear n0_ n1_ n2_ n3_ n4_ n5_ n6_; clear hb hbox hg; have zbL := zaQ.out; have zbM := zaP.out; obtain ⟨zbN, zbO⟩ := M.bc2 (w := w44) (a := .string (⟨#[]⟩ : ByteArray)) (b := .string (⟨#[]⟩ : ByteArray)) zaM.out; obtain ⟨zbP, zbQ⟩ := M.bf2 zaM; obtain ⟨zbR, zbS, zbT⟩ := M.bc3 (w := w44) (a := .int .i64 a0_0) (b := .slice (some ad109) l0_1.length c0_1) (c := .slice A0_2 l0_2.length c0_2) zae.out; obtain ⟨zbU, zbV, zbW⟩ := M.bf3 zae) | (go_at_call 37; (with_reducible refine (chunk_fits.calls a0_0 ((rd_T29 l0_1 x27_2).f0) ((rd_T29 l0_1 x27_2).f1) false _ A18.out).mono ?_); rintro e w48 ⟨rfl, hb⟩; have n0_ := Aside0.mk (blk_below (g := zad) (o := .cells #[.int .i64 a0_0, .slice (some ad109) l0_1.length c0_1, .slice A0_2 l0_2.length c0_2] 25 (0, 0)) (by (with_reducible repeat (first | refine blk_drewN ?_ _ | refine blk_drew ?_ | refine blk_alloc ?_ _)); refine blk_far ?_ zaP.out _; (with_reducible repeat (first | refine blk_drewN ?_ _ | refine blk_drew ?_ | refine blk_alloc ?_ _)); refine blk_far ?_ zaP.out _; (with_reducible repeat (first | refine blk_drewN ?_ _ | refine blk_drew ?_ | refine blk_alloc ?_ _)); exact zae.out) hb); have n1_ := Aside0.mk (blk_below (g := zaL) (o := .cells #[.string ((rd_T29 l0_1 x27_2).f0), .string ((rd_T29 l0_1 x27_2).f1)] 29 (0, 0)) (by (with_reducible repeat (first | refine blk_drewN ?_ _ | refine blk_drew ?_ | refine blk_alloc ?_ _)); refine blk_put (cs := #[.string ((rd_T29 l0_1 x27_2).f0), .string (⟨#[]⟩ : ByteArray)]) ?_ 1 _ rfl; (with_reducible repeat (first | refine blk_drewN ?_ _ | refine blk_drew ?_ | refine blk_alloc ?_ _)); refine blk_put (cs := #[.string (⟨#[]⟩ : ByteArray), .string (⟨#[]⟩ : ByteArray)]) ?_ 0 _ rfl; (with_reducible repeat (first | refine blk_drewN ?_ _ | refine blk_drew ?_ | refine blk_alloc ?_ _)); exact zaM.out) hb); have n2_ := M.upS HB hb; clear zae zaM HB; have zae := n0_; have zaM := n1_; have HB := n2_; clear n0_ n1_ n2_; (try clear hb); (try clear hb2); (try clear hk); (try clear hi))))
                    go_ret
                    exact M.fin (M.up HB)
                · rw [if_neg c17] at H
                  exact absurd H (by simp)
              · rw [if_neg c16] at H
                exact absurd H (by simp)
            · rw [if_neg c15] at H
              have c15b0 : decide (x27_2 < (l0_1.length : Int)) = false := decide_eq_false c15
              clear c15
              obtain rfl := Option.some.inj H
              go_wp2
              repeat (go_quiet (fail); try go_wp2)
              go_ret
              exact M.fin (M.up HB)

-- this session's own plain form
def chunk_Check.f (a0_0 : Int) (l0_1 : List S29) (l0_2 : List Int) : Option Int := if l0_2.length ≤ 9223372036854775806 ∧ l0_1.length ≤ 9223372036854775806 then some (chunk_fits.wrong a0_0 l0_1 l0_2) else none
theorem chunk_Check.loop (lv : Int) (es : List S29) (cs : List Int) (hc : es.length ≤ 9223372036854775806) (d : Nat) : ∀ i : Nat, i + d = es.length →
    chunk_Check_p.l0 (d + 1) es (es.length : Int) (i : Int) lv es cs = some (chunk_fits.go lv (if i = 0 then none else some (rd_T29 es ((i : Int) - 1)).f0) (es.drop i)) := by
  induction d with
  | zero =>
    intro i hi
    simp only [chunk_Check_p.l0]
    rw [if_neg (by omega), List.drop_of_length_le (by omega)]
    cases (if i = 0 then none else some (rd_T29 es ((i : Int) - 1)).f0) <;> rfl
  | succ d ih =>
    intro i hi
    have hlt : i < es.length := by omega
    have hrd : rd_T29 es (i : Int) = es[i] := by simp [rd_T29, List.getD, hlt]
    have hn := ih (i + 1) (by omega)
    rw [if_neg (by omega), show ((i + 1 : Nat) : Int) - 1 = (i : Int) from by omega, hrd] at hn
    rw [chunk_Check_p.l0, if_pos (by omega), if_pos (by omega), if_pos (by omega), hrd]
    unfold chunk_fits.f
    rw [Option.bind_some, M.wrap64_id (i := (i : Int) + 1) (by omega) (by omega), show (i : Int) + 1 = ((i + 1 : Nat) : Int) from by omega, hn, List.drop_eq_getElem_cons hlt]
    generalize es[i] = e
    rw [chunk_fits.go.eq_def lv _ (e :: es.drop (i + 1))]
    simp only
    by_cases hk : chunk_fits.ok lv e.f0 e.f1 = true
    · rw [if_pos hk, if_pos hk]
      by_cases h0 : i = 0
      · rw [if_neg (by omega), if_pos h0]
      · rw [if_pos (by omega), if_neg h0, M.wrap64_id (i := (i : Int) - 1) (by omega) (by omega), if_pos (by omega), if_pos (by omega)]
        simp only
        split <;> rfl
    · rw [if_neg hk, if_neg hk]
theorem chunk_Check.ev (lv : Int) (es : List S29) (cs : List Int) (r : Int) (h : chunk_Check.f lv es cs = some r) : ∃ k, chunk_Check_p.f k lv es cs = some r := by
  unfold chunk_Check.f at h
  split at h
  case isFalse => cases h
  case isTrue hh =>
    have hj : ∀ b, chunk_Check_p.j0 (es.length + 2) b lv es cs = some (if b = true then 2 else chunk_fits.go lv none es) := by
      intro b
      have := chunk_Check.loop lv es cs hh.2 es.length 0 (by omega)
      rw [if_pos rfl, List.drop_zero] at this
      rw [show es.length + 2 = (es.length + 1) + 1 from rfl, chunk_Check_p.j0]
      cases b with
      | true => rfl
      | false => rw [if_neg (by simp), if_neg (by simp)]; exact this
    refine ⟨es.length + 2, ?_⟩
    rw [← h]
    unfold chunk_Check_p.f chunk_counted.f
    rw [if_pos hh, Option.bind_some]
    simp only [hj]
    have w2 : (lv < 0 ∨ 40 < lv ∨ 8 < es.length ∨ chunk_fits.counted lv es cs = false) → chunk_fits.wrong lv es cs = 2 := fun z => by unfold chunk_fits.wrong; rw [if_pos z]
    have w0 : ¬ (lv < 0 ∨ 40 < lv ∨ 8 < es.length ∨ chunk_fits.counted lv es cs = false) → chunk_fits.wrong lv es cs = chunk_fits.go lv none es := fun z => by unfold chunk_fits.wrong; rw [if_neg z]
    by_cases h0 : lv < 0
    · rw [if_pos h0, w2 (.inl h0)]; rfl
    · rw [if_neg h0]
      by_cases h1 : lv > 40
      · rw [if_pos h1, w2 (.inr (.inl h1))]; rfl
      · rw [if_neg h1]
        by_cases h2 : (es.length : Int) > 8
        · rw [if_pos h2, w2 (.inr (.inr (.inl (by omega))))]; rfl
        · rw [if_neg h2]
          cases hb : chunk_fits.counted lv es cs with
          | false => rw [w2 (.inr (.inr (.inr hb)))]; rfl
          | true =>
            have c : ¬ (lv < 0 ∨ 40 < lv ∨ 8 < es.length ∨ chunk_fits.counted lv es cs = false) := by rw [hb]; simp; omega
            rw [w0 c]; rfl
theorem chunk_Check.calls (a0_0 : Int) (A0_1 : Option Addr) (c0_1 : Nat) (l0_1 : List (S29)) (A0_2 : Option Addr) (c0_2 : Nat) (l0_2 : List Int) (r : Int) (w : World) (hr0_1 : Kd.C k29 w A0_1 l0_1.length l0_1) (hc0_1 : l0_1.length ≤ c0_1) (hr0_2 : Kd.C (Kd.int .i64) w A0_2 l0_2.length l0_2) (hc0_2 : l0_2.length ≤ c0_2) (h : chunk_Check.f a0_0 l0_1 l0_2 = some r) :
    Calls Try.prog 24 #[.agg #[.int .i64 a0_0, .slice A0_1 l0_1.length c0_1, .slice A0_2 l0_2.length c0_2]] w fun e w' => e = .returned (.int .i64 r) ∧ Below w.heap.size w w' := by
  obtain ⟨k, hk⟩ := chunk_Check.ev _ _ _ _ h
  exact chunk_Check_p.calls (k := k) (w := w) (h := hk) (hr0_1 := hr0_1) (hc0_1 := hc0_1) (hr0_2 := hr0_2) (hc0_2 := hc0_2)

/-! ### varint_Put: function 43 -/
def varint_Put.f (a0 : Int) : Option ByteArray := if 0 ≤ a0 ∧ a0 < 18446744073709551616 then some (M.sb (M.vb a0.toNat)) else none

def varint_Put.inv (W w : World) (a0 : Nat) (m k : Nat) (pre : List Int) : Prop :=
  k ≤ 9 ∧ pre.length = k ∧ m < 2 * 128 ^ (9 - k) ∧ pre ++ M.vput m = M.vput a0 ∧
  W.ownsRow w.heap.size 73 1 (.slice (some ⟨w.heap.size, 0, none⟩) 10 10) 10 (nums .u8 (pre ++ List.replicate (10 - k) 0)) ∧ Below w.heap.size w W

theorem varint_Put.slice_ (b k : Nat) (hk : k ≤ 9) (W : World) :
    (Instr.sliceAt 73 (.pointer (some ⟨b, 0, none⟩)) none (some (.int .i64 ((k : Int) + 1))) none).run Try.prog W = .ok (.slice (some ⟨b, 0, none⟩) (k + 1) 10) W := by
  have ha : Try.prog.arrayLen 73 = 10 := by kernel_rfl
  rw [run_sliceAt_array_h W 73 _ (by kernel_rfl) .i64 _ (by omega) (by rw [ha]; omega), ha]
  have hs : (sizeOf (Try.prog.elem 73)).run Try.prog W = .ok 1 W := by kernel_rfl
  rw [hs]
  simp [Result.andThen, slicedAt, add_plain]

set_option maxHeartbeats 1000000 in
theorem varint_Put.nat (a0 : Nat) (w : World) (h1 : a0 < 18446744073709551616) :
    Calls Try.prog 43 #[.int .u64 a0] w fun e w' => e = .returned (.string (strOfNums (M.vput a0))) ∧ Below w.heap.size w w' := by
  go_enter Try.func43, Try.ntmps43
  go_wp2
  go_loopw [0, 4] (fun n i wr => ∃ (m k : Nat) (pre : List Int), n = .int .u64 m ∧ i = .int .i64 k ∧ varint_Put.inv wr w a0 m k pre) (fun n _ _ => (intOf n).toNat)
  case atStart =>
    refine ⟨a0, 0, [], rfl, rfl, Nat.zero_le _, rfl, by simpa using h1, rfl, ?_, below_alloc (Below.refl _ _) _⟩
    exact World.ownsRow_lit (base := w.heap.size) (e := 73) (size := 1) w #[Value.int IntKind.u8 0, Value.int IntKind.u8 0, Value.int IntKind.u8 0, Value.int IntKind.u8 0, Value.int IntKind.u8 0, Value.int IntKind.u8 0, Value.int IntKind.u8 0, Value.int IntKind.u8 0, Value.int IntKind.u8 0, Value.int IntKind.u8 0] 10 (Nat.le_refl _) (by decide) rfl
  case round =>
    obtain ⟨m, k, pre, rfl, rfl, hk, hl, hm, he, ho, hb⟩ := hrel
    obtain ⟨hc, hf⟩ := own_at ho (k : Int) (by omega) (by omega)
    have hm64 := M.put_m64 hm
    by_cases hlt : m < 128
    · have ht : decide ((m : Int) ≥ 128) = false := by simp; omega
      have hs := own_store ho (k : Int) ((m : Nat) : Int)
      rw [M.put_set pre k _ hk hl] at hs
      have ht2 := own_take (m := k + 1) hs.1 (by omega)
      have hconv := own_string (P := Try.prog) (src := 63) (dst := 9) (e := 5) (xs := (pre ++ [(m : Int)])) (by kernel_rfl) (by kernel_rfl) (by kernel_rfl) (by
        have e : List.take ((k + 1) * 1) (nums .u8 (pre ++ [(m : Int)] ++ List.replicate (10 - (k + 1)) 0)) = nums .u8 (pre ++ [(m : Int)]) := by
          rw [nums_append, Nat.mul_one, List.take_left' (by simp [nums, hl])]
        rw [e] at ht2; exact ht2)
      rw [← M.vput_low hlt, he] at hconv
      have hb' : Below w.heap.size w (wr.setCell ⟨w.heap.size, (k : Int).toNat, none⟩ (.int .u8 m)) := pw_below_grown hb _ hb.size hs.2 (fun q hq => by cases hq; exact Nat.le_refl _)
      have hsl := fun W => varint_Put.slice_ w.heap.size k hk W
      rw [Int.toNat_natCast] at hc hf hconv hb'
      clear ht2 hl he hs ho hm
      go_wp2
      go_ret
      exact ⟨rfl, hb'⟩
    · have ht : decide ((m : Int) ≥ 128) = true := by simp; omega
      obtain ⟨hk8, hm8⟩ := M.put_bound hk hm hlt
      have hs := own_store ho (k : Int) ((m % 128 + 128 : Nat) : Int)
      rw [M.put_set pre k _ hk hl] at hs
      have hb' : Below w.heap.size w (wr.setCell ⟨w.heap.size, (k : Int).toNat, none⟩ (.int .u8 ((m % 128 + 128 : Nat) : Int))) := pw_below_grown hb _ hb.size hs.2 (fun q hq => by cases hq; exact Nat.le_refl _)
      rw [Int.toNat_natCast] at hc hf hb' hs
      have HH : varint_Put.inv (wr.setCell ⟨w.heap.size, k, none⟩ (.int .u8 ((m % 128 + 128 : Nat) : Int))) w a0 (m / 128) (k + 1) (pre ++ [((m % 128 + 128 : Nat) : Int)]) :=
        ⟨hk8, by simp [hl], hm8, by rw [← he, M.vput_high hlt]; simp, hs.1, hb'⟩
      clear hs hb' hl he ho hm hm8
      have H := Aside0.mk HH
      clear HH
      have hor := M.or128 m
      go_wp2
      go_roundw
      case rel => exact ⟨m / 128, k + 1, _, by go_num, by go_num, H.out⟩
      case measure => simp [intOf]; omega

theorem varint_Put.calls (a0 : Int) (r : ByteArray) (w : World) (h : varint_Put.f a0 = some r) :
    Calls Try.prog 43 #[.int .u64 a0] w fun e w' => e = .returned (.string r) ∧ Below w.heap.size w w' := by
  unfold varint_Put.f at h
  split at h
  · rename_i hh
    obtain ⟨n, rfl⟩ := Int.eq_ofNat_of_zero_le hh.1
    obtain rfl := Option.some.inj h
    have := varint_Put.nat n w (by omega)
    rw [M.vput_vb] at this
    exact this
  · cases h

/-! ### scan_PutNum_p: function 30 -/
def scan_PutNum_p.f (a0 : Int) : Option (ByteArray) := (varint_Put.f (IntKind.u64.wrap (mx a0 0))).bind fun t113 => (some t113)
set_option maxHeartbeats 8000000 in
set_option maxRecDepth 100000 in
theorem scan_PutNum_p.calls (a0 : Int) (r : ByteArray) (w : World) (h : scan_PutNum_p.f a0 = some r) :
    Calls Try.prog 30 #[.int .i64 a0] w fun e w' => e = .returned (.string r) ∧ Below w.heap.size w w' := by
  have HB := Aside0.mk (Below.refl w.heap.size w)
  have H : ((varint_Put.f (IntKind.u64.wrap (mx a0 0))).bind fun t113 => (some t113)) = some r := h
  clear h
  obtain ⟨ji2, hji2⟩ : ∃ j_ : Int, (mx a0 0) = j_ := ⟨_, rfl⟩
  replace H : ((varint_Put.f (IntKind.u64.wrap (ji2))).bind fun t113 => (some t113)) = some r := by first | (rw [hji2] at H; exact H) | (simp only [hji2] at H ⊢; exact H)
  (try (have hji2l : 0 ≤ ji2 := by (rw [← hji2]; unfold mx; (repeat' split) <;> omega)))
  (try (have hji2m : 0 ≤ ji2 := by omega))
  have hji2_ : (if a0 < 0 then 0 else a0) = ji2 := hji2
  replace H := Option.bind_eq_some_iff.mp H
  obtain ⟨t113, A30, H⟩ := H
  replace H : (some t113) = some r := H
  have A3 := Aside0.mk A30
  clear A30
  obtain rfl := Option.some.inj H
  go_enter Try.func30, Try.ntmps30
  go_wp2_with (first | ((with_reducible refine gate_callee (f := 43) rfl ?_); refine goesL_ (some 6) rfl rfl Try.func43 (by kernel_rfl) rfl #[.int .u64 (IntKind.u64.wrap (ji2))] rfl (by (try simp only [List.map_toArray, List.map_cons, List.map_nil]); first | done | (simp only [hji2]; rfl) | rfl | (simp only [List.length_drop, List.length_take]; rfl)) ?_; (with_reducible refine (varint_Put.calls (IntKind.u64.wrap (ji2)) t113 _ A3.out).mono ?_); rintro e w4 ⟨rfl, hb⟩; refine ⟨_, rfl, ?_⟩; have n0_ := M.upS HB hb; clear HB; have HB := n0_; clear n0_; (try clear hb)))
  go_ret
  exact ⟨by first | rfl | (simp [errW_none, errW_some] <;> rfl) | (simp only [← hji2]; first | rfl | (simp [errW_none, errW_some] <;> rfl)) | (simp [*, errW_none, errW_some] <;> rfl), M.up HB⟩

-- this session's own plain form
def scan_PutNum.f (a0 : Int) : Option ByteArray := if a0 ≤ 9223372036854775807 then some (M.sb (M.vb a0.toNat)) else none
theorem scan_PutNum.ev (a0 : Int) (r : ByteArray) (h : scan_PutNum.f a0 = some r) : scan_PutNum_p.f a0 = some r := by
  unfold scan_PutNum.f at h
  split at h
  · rename_i hh
    have e : IntKind.u64.wrap (mx a0 0) = (a0.toNat : Int) := by
      by_cases h0 : 0 ≤ a0
      · rw [M.mx_ge h0, M.u64_id h0 (by omega)]; omega
      · rw [M.mx_le (by omega), M.u64_id (by decide) (by decide)]; omega
    unfold scan_PutNum_p.f varint_Put.f
    rw [e, if_pos ⟨by omega, by omega⟩, Option.bind_some, Int.toNat_natCast]
    exact h
  · cases h
theorem scan_PutNum.calls (a0 : Int) (r : ByteArray) (w : World) (h : scan_PutNum.f a0 = some r) :
    Calls Try.prog 30 #[.int .i64 a0] w fun e w' => e = .returned (.string r) ∧ Below w.heap.size w w' := by
  exact scan_PutNum_p.calls (w := w) (h := scan_PutNum.ev _ _ h)

/-! ### scan_PutText: function 31 -/
def scan_PutText.f (a0 : ByteArray) : Option ByteArray := if a0.size ≤ 9223372036854775797 then some (M.sb (M.vb a0.size) ++ a0) else none
theorem scan_PutText.go (a0 p : ByteArray) (w : World) (h0 : a0.size ≤ 9223372036854775797) (hp : varint_Put.f (a0.size : Int) = some p) (hs : p.size + a0.size ≤ 9223372036854775807) :
    Calls Try.prog 31 #[.string a0] w fun e w' => e = .returned (.string (p ++ a0)) ∧ Below w.heap.size w w' := by
  have HP := Aside0.mk hp
  clear hp
  have c3b0 := eq_true hs
  have c3b1 : decide (p.size + a0.size ≤ 9223372036854775807) = true := decide_eq_true hs
  have c3b2 : (9223372036854775807 < p.size + a0.size) = False := eq_false (Nat.not_lt.2 hs)
  go_enter Try.func31, Try.ntmps31
  go_wp2_with (go_at_call 43; refine (varint_Put.calls (a0.size : Int) p _ HP.out).mono ?_; rintro e w1 ⟨rfl, hb⟩)
  go_ret
  exact ⟨rfl, hb⟩
theorem scan_PutText.calls (a0 : ByteArray) (r : ByteArray) (w : World) (h : scan_PutText.f a0 = some r) :
    Calls Try.prog 31 #[.string a0] w fun e w' => e = .returned (.string r) ∧ Below w.heap.size w w' := by
  unfold scan_PutText.f at h
  split at h
  · rename_i hh
    obtain rfl := Option.some.inj h
    have hl := M.vb_le a0.size (by omega)
    refine scan_PutText.go a0 _ w hh ?_ (by rw [M.size_sb]; omega)
    unfold varint_Put.f
    rw [if_pos ⟨by omega, by omega⟩, Int.toNat_natCast]
  · cases h

end Go.Proofs.Ytccppdpmfegndaa.EChunkTells
