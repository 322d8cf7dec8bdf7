-- Laid by this session's own program (wip/tools/fold.py): this session's texts, cut to what the claim names and put together; Lean checks it.
import Derived.Test.YtopllfdjlbnmfaaDoorVTreeChildren1
import Derived.Test.YtopllfdjlbnmfaaDoorVTreeChildren2
import Derived.Test.YtopllfdjlbnmfaaDoorVTreeChildren3
import Derived.Test.YtopllfdjlbnmfaaDoorXTreeChildren1
namespace Go.Proofs.YtopllfdjlbnmfaaDoor.ETreeChildren
open Go.RowKit Go.Proofs.YtopllfdjlbnmfaaDoorW.PrintWords Go.Proofs.YtopllfdjlbnmfaaDoorW.PrintLast Go.Proofs.YtopllfdjlbnmfaaDoorW.PrintMore
attribute [local go_sem] M.run_leq M.run_gtr M.run_geq max2_int min2_int max_two min_two max_three min_three max_four min_four
set_option linter.unusedVariables false
set_option linter.unusedSimpArgs false
mutual
def chunk_Check_p.j0 : Nat → Bool → Int → List (S78) → List Int → Option (Int)
  | 0, _, _, _, _ => none
  | k + 1, x23, zaa, zab, zac => if x23 = true then (some 2) else (chunk_Check_p.l0 k zab (zab.length : Int) 0 zaa zab zac)
def chunk_Check_p.l0 : Nat → List (S78) → Int → Int → Int → List (S78) → List Int → Option (Int)
  | 0, _, _, _, _, _, _ => none
  | k + 1, x25, x26, x27, zaa, zab, zac => if x27 < x26 then (if 0 ≤ x27 then (if x27 < (x25.length : Int) then ((chunk_fits.f zaa ((rd_T78 x25 x27).f0) ((rd_T78 x25 x27).f1)).bind fun t117 => (if t117 = true then (if x27 > 0 then (if 0 ≤ (wrap64 (x27 - 1)) then (if (wrap64 (x27 - 1)) < (zab.length : Int) then (if ((Op.bytesLess (((rd_T78 zab (wrap64 (x27 - 1))).f0).toList) (((rd_T78 x25 x27).f0).toList)) = true) then (chunk_Check_p.l0 k x25 x26 (wrap64 (x27 + 1)) zaa zab zac) else (some 4)) else (none)) else (none)) else (chunk_Check_p.l0 k x25 x26 (wrap64 (x27 + 1)) zaa zab zac)) else (some 2))) else (none)) else (none)) else (some 0)
end
def chunk_Check_p.f (k : Nat) (a0_0 : Int) (l0_1 : List (S78)) (l0_2 : List Int) : Option (Int) := if a0_0 < 0 then (chunk_Check_p.j0 k true a0_0 l0_1 l0_2) else (if a0_0 > 40 then (chunk_Check_p.j0 k true a0_0 l0_1 l0_2) else (if (l0_1.length : Int) > 8 then (chunk_Check_p.j0 k true a0_0 l0_1 l0_2) else ((chunk_counted.f a0_0 l0_1 l0_2).bind fun t114 => (chunk_Check_p.j0 k (!t114) a0_0 l0_1 l0_2))))
theorem chunk_Check_p.mono_l : ∀ k, (∀ y0 y1 y2 y3, LeO (chunk_Check_p.j0 k y0 y1 y2 y3) (chunk_Check_p.j0 (k + 1) y0 y1 y2 y3)) ∧ (∀ y0 y1 y2 y3 y4 y5, LeO (chunk_Check_p.l0 k y0 y1 y2 y3 y4 y5) (chunk_Check_p.l0 (k + 1) y0 y1 y2 y3 y4 y5))
  | 0 => ⟨fun _ _ _ _ r h => by simp [chunk_Check_p.j0] at h, fun _ _ _ _ _ _ r h => by simp [chunk_Check_p.l0] at h⟩
  | k + 1 => by
    obtain ⟨ih0, ih1⟩ := chunk_Check_p.mono_l k
    refine ⟨?_, ?_⟩
    · intro y0 y1 y2 y3
      unfold chunk_Check_p.j0
      repeat' first
      | (with_reducible exact ih1 _ _ _ _ _ _)
      | (with_reducible exact LeO.refl _)
      | (with_reducible refine LeO.ite ?_ ?_)
    · intro y0 y1 y2 y3 y4 y5
      unfold chunk_Check_p.l0
      repeat' first
      | (with_reducible exact ih1 _ _ _ _ _ _)
      | (with_reducible exact LeO.refl _)
      | (with_reducible refine LeO.ite ?_ ?_)
      | (with_reducible refine LeO.bind ?_ (fun _ => ?_))
theorem chunk_Check_p.mono : ∀ a0 a1 a2 k, LeO (chunk_Check_p.f k a0 a1 a2) (chunk_Check_p.f (k + 1) a0 a1 a2) := by
  intro a0 a1 a2 k
  obtain ⟨ih0, ih1⟩ := chunk_Check_p.mono_l k
  unfold chunk_Check_p.f
  repeat' first
      | (with_reducible exact ih0 _ _ _ _)
      | (with_reducible exact LeO.refl _)
      | (with_reducible refine LeO.ite ?_ ?_)
      | (with_reducible refine LeO.bind ?_ (fun _ => ?_))
set_option maxHeartbeats 8000000 in
set_option maxRecDepth 100000 in
theorem chunk_Check_p.calls (k : Nat) (a0_0 : Int) (A0_1 : Option Addr) (c0_1 : Nat) (l0_1 : List (S78)) (A0_2 : Option Addr) (c0_2 : Nat) (l0_2 : List Int) (r : Int) (w : World) (hr0_1 : Kd.C k78 w A0_1 l0_1.length l0_1) (hc0_1 : l0_1.length ≤ c0_1) (hr0_2 : Kd.C (Kd.int .i64) w A0_2 l0_2.length l0_2) (hc0_2 : l0_2.length ≤ c0_2) (h : chunk_Check_p.f k a0_0 l0_1 l0_2 = some r) :
    Calls Tryd.prog 80 #[.agg #[.int .i64 a0_0, .slice A0_1 l0_1.length c0_1, .slice A0_2 l0_2.length c0_2]] w fun e w' => e = .returned (.int .i64 r) ∧ Below w.heap.size w w' := by
 have hu26 := Tryd.underlying26
 have hu78 := Tryd.underlying78
 have HR0_1 := Aside0.mk hr0_1
 have HC0_1 := Aside0.mk hc0_1
 clear hr0_1 hc0_1
 have HR0_2 := Aside0.mk hr0_2
 have HC0_2 := Aside0.mk hc0_2
 clear hr0_2 hc0_2
 have HB := Aside0.mk (Below.refl w.heap.size w)
 have H := h; unfold chunk_Check_p.f at H
 clear h
 have HC2 := Aside0.mk H
 clear H
 go_enter Tryd.func80, Tryd.ntmps80
 go_upto_region 1 with (((with_reducible refine gate_dst (N := 1) rfl ?_); ((refine gate_guard (by rfl) ?_; dsimp only)); refine M.bx 1 26 (#[.int .i64 a0_0, .slice A0_1 l0_1.length c0_1, .slice A0_2 l0_2.length c0_2]) ?_; intro zad hg w3 hbox hb; have zae := Aside0.mk (hbox); have zaf := M.upG HB hg; have zag := M.upG HB hg; replace HB := M.upS HB hb; clear hb hbox hg))
 repeat (go_quiet (((with_reducible refine gate_dst (N := 1) rfl ?_); (try (refine gate_guard (by rfl) ?_; dsimp only)); refine M.bx 1 26 (#[.int .i64 a0_0, .slice A0_1 l0_1.length c0_1, .slice A0_2 l0_2.length c0_2]) ?_; intro zad hg w3 hbox hb; have zae := Aside0.mk (hbox); have zaf := M.upG HB hg; have zag := M.upG HB hg; replace HB := M.upS HB hb; clear hb hbox hg)); go_upto_region 1 with (((with_reducible refine gate_dst (N := 1) rfl ?_); (try (refine gate_guard (by rfl) ?_; dsimp only)); refine M.bx 1 26 (#[.int .i64 a0_0, .slice A0_1 l0_1.length c0_1, .slice A0_2 l0_2.length c0_2]) ?_; intro zad hg w3 hbox hb; have zae := Aside0.mk (hbox); have zaf := M.upG HB hg; have zag := M.upG HB hg; replace HB := M.upS HB hb; clear hb hbox hg)))
 go_cut [23] (fun v23 wc => ∃ (kq : Nat) (x23_1 : Bool), v23 = .bool x23_1 ∧ Aside0 (chunk_Check_p.j0 kq x23_1 a0_0 l0_1 l0_2 = some r) ∧ Aside0 (kq ≤ k) ∧ Aside0 (wc.heap[zad]? = some (.cells #[.int .i64 a0_0, (.slice A0_1 l0_1.length c0_1), (.slice A0_2 l0_2.length c0_2)] 26 (0, 0))) ∧ Aside0 (Below w.heap.size w wc))
 case first =>
  have H := HC2.out
  clear HC2
  by_cases c4 : a0_0 < 0
  ·rw [if_pos c4] at H
   have c4b0 := decide_eq_true c4
   clear c4
   ((skip))
   have H' := Aside0.mk H
   clear H
   obtain ⟨zah, zai, zaj⟩ := M.bc3 (w := w3) (a := .int .i64 a0_0) (b := .slice A0_1 l0_1.length c0_1) (c := .slice A0_2 l0_2.length c0_2) zae.out
   obtain ⟨zak, zal, zam⟩ := M.bf3 zae
   go_wp2
   repeat (go_quiet (fail); try go_wp2)
   go_meet
   case rel => exact ⟨_, (true), M.eqv, H', ⟨by (omega)⟩, ⟨M.bk zae⟩, ⟨M.up HB⟩⟩
  ·rw [if_neg c4] at H
   have c4b0 := decide_eq_false c4
   clear c4
   ((skip))
   by_cases c6 : a0_0 > 40
   ·rw [if_pos c6] at H
    have c6b0 := decide_eq_true c6
    clear c6
    have H' := Aside0.mk H
    clear H
    obtain ⟨zan, zao, zap⟩ := M.bc3 (w := w3) (a := .int .i64 a0_0) (b := .slice A0_1 l0_1.length c0_1) (c := .slice A0_2 l0_2.length c0_2) zae.out
    obtain ⟨zaq, zar, zas⟩ := M.bf3 zae
    go_wp2
    repeat (go_quiet (fail); try go_wp2)
    go_meet
    case rel => exact ⟨_, (true), M.eqv, H', ⟨by (omega)⟩, ⟨M.bk zae⟩, ⟨M.up HB⟩⟩
   ·rw [if_neg c6] at H
    have c6b0 := decide_eq_false c6
    clear c6
    by_cases c8 : (l0_1.length : Int) > 8
    ·rw [if_pos c8] at H
     have c8b0 := decide_eq_true c8
     have c8b1 : decide (8 < l0_1.length) = true := decide_eq_true (by omega)
     clear c8
     have H' := Aside0.mk H
     clear H
     obtain ⟨zat, zau, zav⟩ := M.bc3 (w := w3) (a := .int .i64 a0_0) (b := .slice A0_1 l0_1.length c0_1) (c := .slice A0_2 l0_2.length c0_2) zae.out
     obtain ⟨zaw, zax, zay⟩ := M.bf3 zae
     go_wp2
     repeat (go_quiet (fail); try go_wp2)
     go_meet
     case rel => exact ⟨_, (true), M.eqv, H', ⟨by (omega)⟩, ⟨M.bk zae⟩, ⟨M.up HB⟩⟩
    ·rw [if_neg c8] at H
     have c8b0 := decide_eq_false c8
     have c8b1 : decide (8 < l0_1.length) = false := decide_eq_false (by omega)
     clear c8
     replace H := Option.bind_eq_some_iff.mp H
     obtain ⟨t114, A100, H⟩ := H
     try simp only at H
     have A10 := Aside0.mk A100
     clear A100
     have H' := Aside0.mk H
     clear H
     obtain ⟨zaz, zaA, zaB⟩ := M.bc3 (w := w3) (a := .int .i64 a0_0) (b := .slice A0_1 l0_1.length c0_1) (c := .slice A0_2 l0_2.length c0_2) zae.out
     obtain ⟨zaC, zaD, zaE⟩ := M.bf3 zae
     go_wp2_with ((go_at_call 95; (with_reducible refine (chunk_counted.calls a0_0 _ _ l0_1 _ _ l0_2 t114 _ ?side1 ?side2 ?side3 ?side4 A10.out).mono ?_); (case side1 => exact M.cB HR0_1 HB); (case side2 => exact HC0_1.out); (case side3 => exact M.cB HR0_2 HB); (case side4 => exact HC0_2.out); rintro e w12 ⟨rfl, hb⟩; replace zae := M.bkB zae hb; replace HB := M.upS HB hb; clear hb))
     repeat (go_quiet ((go_at_call 95; (with_reducible refine (chunk_counted.calls a0_0 _ _ l0_1 _ _ l0_2 t114 _ ?side1 ?side2 ?side3 ?side4 A10.out).mono ?_); (case side1 => exact M.cB HR0_1 HB); (case side2 => exact HC0_1.out); (case side3 => exact M.cB HR0_2 HB); (case side4 => exact HC0_2.out); rintro e w12 ⟨rfl, hb⟩; replace zae := M.bkB zae hb; replace HB := M.upS HB hb; (try clear hb); (try clear hb2); (try clear hk); (try clear hi))); try go_wp2_with ((go_at_call 95; (with_reducible refine (chunk_counted.calls a0_0 _ _ l0_1 _ _ l0_2 t114 _ ?side1 ?side2 ?side3 ?side4 A10.out).mono ?_); (case side1 => exact M.cB HR0_1 HB); (case side2 => exact HC0_1.out); (case side3 => exact M.cB HR0_2 HB); (case side4 => exact HC0_2.out); rintro e w12 ⟨rfl, hb⟩; replace zae := M.bkB zae hb; replace HB := M.upS HB hb; (try clear hb); (try clear hb2); (try clear hk); (try clear hi))))
     go_meet
     case rel => exact ⟨_, (!t114), M.eqv, H', ⟨by (omega)⟩, ⟨M.bk zae⟩, ⟨M.up HB⟩⟩
 case rest =>
  clear HC2
  obtain ⟨kq, x23_1, rfl, HA, HJ1, zae, HB⟩ := hcut
  cases kq with
  | zero => exact absurd HA.out (by simp [chunk_Check_p.j0])
  | succ kj1 =>
   have H := HA.out
   clear HA
   simp only [chunk_Check_p.j0] at H
   by_cases c13 : x23_1 = true
   ·subst c13
    have H1 := H; rw [if_pos rfl] at H1
    clear H
    have H := H1
    clear H1
    obtain rfl := Option.some.inj H
    go_wp2
    repeat (go_quiet (fail); try go_wp2)
    go_ret
    exact M.fin (M.up HB)
   ·replace c13 := Bool.eq_false_iff.mpr c13
    subst c13
    have H1 : (chunk_Check_p.l0 kj1 l0_1 (l0_1.length : Int) 0 a0_0 l0_1 l0_2) = some r := by rw [if_neg (show ¬ (false = true) by decide)] at H; exact H
    clear H
    have H := H1
    clear H1
    have H' := Aside0.mk H
    clear H
    obtain ⟨zaF, zaG, zaH⟩ := M.bc3 (w := wc) (a := .int .i64 a0_0) (b := .slice A0_1 l0_1.length c0_1) (c := .slice A0_2 l0_2.length c0_2) zae.out
    obtain ⟨zaI, zaJ, zaK⟩ := M.bf3 zae
    go_wp2
    repeat (go_quiet (fail); try go_wp2)
    go_loopg [27] kj1 (fun kq v27 w' => ∃ (x27_2 : Int), v27 = .int .i64 x27_2 ∧ Aside0 (chunk_Check_p.l0 kq l0_1 (l0_1.length : Int) x27_2 a0_0 l0_1 l0_2 = some r) ∧ Aside0 (kq ≤ kj1) ∧ Aside0 (w'.heap[zad]? = some (.cells #[.int .i64 a0_0, (.slice A0_1 l0_1.length c0_1), (.slice A0_2 l0_2.length c0_2)] 26 (0, 0))) ∧ Aside0 (Below w.heap.size w w'))
    case atStart => exact ⟨(0), M.eqv, H', ⟨Nat.le_refl _⟩, ⟨M.bk zae⟩, ⟨M.up HB⟩⟩
    case round =>
     clear H'
     clear zaF zaG zaH zaI zaJ zaK
     obtain ⟨x27_2, rfl, HA, HK2, zae, HB⟩ := hrel
     cases gk with
     | zero => exact absurd HA.out (by simp [chunk_Check_p.l0])
     | succ k2 =>
      have H := HA.out
      clear HA
      simp only [chunk_Check_p.l0] at H
      by_cases c15 : x27_2 < (l0_1.length : Int)
      ·rw [if_pos c15] at H
       have c15b0 := decide_eq_true c15
       clear c15
       by_cases c16 : 0 ≤ x27_2
       ·rw [if_pos c16] at H
        have c16b0 := decide_eq_true c16
        clear c16
        by_cases c17 : x27_2 < (l0_1.length : Int)
        ·rw [if_pos c17] at H
         have c17b0 := decide_eq_true c17
         clear c17
         replace H := Option.bind_eq_some_iff.mp H
         obtain ⟨t117, A180, H⟩ := H
         try simp only at H
         have A18 := Aside0.mk A180
         clear A180
         by_cases c19 : t117 = true
         ·subst c19
          have H1 := H; rw [if_pos rfl] at H1
          clear H
          have H := H1
          clear H1
          by_cases c20 : x27_2 > 0
          ·rw [if_pos c20] at H
           have c20b0 := decide_eq_true c20
           clear c20
           obtain ⟨ji21, hji21⟩ : ∃ j_ : Int, (wrap64 (x27_2 - 1)) = j_ := ⟨_, rfl⟩
           replace H : (if 0 ≤ (ji21) then (if (ji21) < (l0_1.length : Int) then (if ((Op.bytesLess (((rd_T78 l0_1 (ji21)).f0).toList) (((rd_T78 l0_1 x27_2).f0).toList)) = true) then (chunk_Check_p.l0 k2 l0_1 (l0_1.length : Int) (wrap64 (x27_2 + 1)) a0_0 l0_1 l0_2) else (some 4)) else (none)) else (none)) = some r := by (rw [hji21] at H; exact H)
           have hji21w : (IntKind.i64.wrap (x27_2 - 1)) = ji21 := (i64_w _).trans hji21
           by_cases c22 : 0 ≤ (ji21)
           ·rw [if_pos c22] at H
            have c22b0 := decide_eq_true c22
            clear c22
            by_cases c23 : (ji21) < (l0_1.length : Int)
            ·rw [if_pos c23] at H
             have c23b0 := decide_eq_true c23
             clear c23
             by_cases c24 : ((Op.bytesLess (((rd_T78 l0_1 (ji21)).f0).toList) (((rd_T78 l0_1 x27_2).f0).toList)) = true)
             ·rw [if_pos c24] at H
              have c24b0 : (Op.bytesLess (((rd_T78 l0_1 (ji21)).f0).toList) (((rd_T78 l0_1 x27_2).f0).toList)) = true := c24
              clear c24
              have H' := Aside0.mk H
              clear H
              have p115 : 0 ≤ (x27_2 : Int) := M.dt
              have q115 : x27_2 < (l0_1.length : Int) := M.dt
              obtain ⟨ad115, e115, hx115_0, hx115_1⟩ := at_T78 HR0_1.out x27_2 p115 q115
              cases e115
              replace hx115_0 := M.hc HB hx115_0
              replace hx115_1 := M.hc HB hx115_1
              replace p115 := eq_true p115
              replace q115 := eq_true q115
              go_wp2_with (first | ((with_reducible refine gate_dst (N := 4) rfl ?_); ((refine gate_guard (by rfl) ?_; dsimp only)); refine M.bx 4 78 (#[.string (⟨#[]⟩ : ByteArray), .string (⟨#[]⟩ : ByteArray)]) ?_; intro zaL hg w25 hbox hb; have zaM := Aside0.mk (hbox); have zaN := M.upG HB hg; have zaO := M.upG HB hg; replace HB := M.upS HB hb; have zaP := M.bkL zae hg; have zaQ := M.bkG zae hg; replace zae := M.bkB zae hb; clear hb hbox hg; have zaR := zaQ.out; have zaS := zaP.out; obtain ⟨zaT, zaU⟩ := M.bc2 (w := w25) (a := .string (⟨#[]⟩ : ByteArray)) (b := .string (⟨#[]⟩ : ByteArray)) zaM.out; obtain ⟨zaV, zaW⟩ := M.bf2 zaM; obtain ⟨zaX, zaY, zaZ⟩ := M.bc3 (w := w25) (a := .int .i64 a0_0) (b := .slice (some ad115) l0_1.length c0_1) (c := .slice A0_2 l0_2.length c0_2) zae.out; obtain ⟨za0, za1, za2⟩ := M.bf3 zae) | (go_at_call 96; (with_reducible refine (chunk_fits.calls a0_0 ((rd_T78 l0_1 x27_2).f0) ((rd_T78 l0_1 x27_2).f1) true _ A18.out).mono ?_); rintro e w29 ⟨rfl, hb⟩; replace zae := Aside0.mk (blk_below (g := zad) (o := .cells #[.int .i64 a0_0, .slice (some ad115) l0_1.length c0_1, .slice A0_2 l0_2.length c0_2] 26 (0, 0)) (by refine M.fr ?_ zaP; refine M.fr ?_ zaP; exact M.bk zae) hb); replace zaM := Aside0.mk (blk_below (g := zaL) (o := .cells #[.string ((rd_T78 l0_1 x27_2).f0), .string ((rd_T78 l0_1 x27_2).f1)] 78 (0, 0)) (by refine M.fp (cs := #[.string ((rd_T78 l0_1 x27_2).f0), .string (⟨#[]⟩ : ByteArray)]) ?_ 1; refine M.fp (cs := #[.string (⟨#[]⟩ : ByteArray), .string (⟨#[]⟩ : ByteArray)]) ?_ 0; exact M.bk zaM) hb); replace HB := M.upS HB hb; clear hb; obtain ⟨za3, za4, za5⟩ := M.bc3 (w := w29) (a := .int .i64 a0_0) (b := .slice (some ad115) l0_1.length c0_1) (c := .slice A0_2 l0_2.length c0_2) zae.out; obtain ⟨za6, za7, za8⟩ := M.bf3 zae; have p118 : 0 ≤ ((ji21) : Int) := M.dt; have q118 : (ji21) < (l0_1.length : Int) := M.dt; obtain ⟨ad118, e118, hx118_0, hx118_1⟩ := at_T78 HR0_1.out (ji21) p118 q118; obtain rfl : ad115 = ad118 := (by injection e118); replace hx118_0 := M.hc HB hx118_0; replace hx118_1 := M.hc HB hx118_1; replace p118 := eq_true p118; replace q118 := eq_true q118; obtain ⟨za9, zba⟩ := M.bc2 (w := w29) (a := .string ((rd_T78 l0_1 x27_2).f0)) (b := .string ((rd_T78 l0_1 x27_2).f1)) zaM.out; obtain ⟨zbb, zbc⟩ := M.bf2 zaM))
              repeat (go_quiet (first | ((with_reducible refine gate_dst (N := 4) rfl ?_); (try (refine gate_guard (by rfl) ?_; dsimp only)); refine M.bx 4 78 (#[.string (⟨#[]⟩ : ByteArray), .string (⟨#[]⟩ : ByteArray)]) ?_; intro zaL hg w25 hbox hb; have zaM := Aside0.mk (hbox); have zaN := M.upG HB hg; have zaO := M.upG HB hg; replace HB := M.upS HB hb; have zaP := M.bkL zae hg; have zaQ := M.bkG zae hg; replace zae := M.bkB zae hb; clear hb hbox hg; have zaR := zaQ.out; have zaS := zaP.out; obtain ⟨zaT, zaU⟩ := M.bc2 (w := w25) (a := .string (⟨#[]⟩ : ByteArray)) (b := .string (⟨#[]⟩ : ByteArray)) zaM.out; obtain ⟨zaV, zaW⟩ := M.bf2 zaM; obtain ⟨zaX, zaY, zaZ⟩ := M.bc3 (w := w25) (a := .int .i64 a0_0) (b := .slice (some ad115) l0_1.length c0_1) (c := .slice A0_2 l0_2.length c0_2) zae.out; obtain ⟨za0, za1, za2⟩ := M.bf3 zae) | (go_at_call 96; (with_reducible refine (chunk_fits.calls a0_0 ((rd_T78 l0_1 x27_2).f0) ((rd_T78 l0_1 x27_2).f1) true _ A18.out).mono ?_); rintro e w29 ⟨rfl, hb⟩; replace zae := Aside0.mk (blk_below (g := zad) (o := .cells #[.int .i64 a0_0, .slice (some ad115) l0_1.length c0_1, .slice A0_2 l0_2.length c0_2] 26 (0, 0)) (by refine M.fr ?_ zaP; refine M.fr ?_ zaP; exact M.bk zae) hb); replace zaM := Aside0.mk (blk_below (g := zaL) (o := .cells #[.string ((rd_T78 l0_1 x27_2).f0), .string ((rd_T78 l0_1 x27_2).f1)] 78 (0, 0)) (by refine M.fp (cs := #[.string ((rd_T78 l0_1 x27_2).f0), .string (⟨#[]⟩ : ByteArray)]) ?_ 1; refine M.fp (cs := #[.string (⟨#[]⟩ : ByteArray), .string (⟨#[]⟩ : ByteArray)]) ?_ 0; exact M.bk zaM) hb); replace HB := M.upS HB hb; (try clear hb); (try clear hb2); (try clear hk); (try clear hi); obtain ⟨za3, za4, za5⟩ := M.bc3 (w := w29) (a := .int .i64 a0_0) (b := .slice (some ad115) l0_1.length c0_1) (c := .slice A0_2 l0_2.length c0_2) zae.out; obtain ⟨za6, za7, za8⟩ := M.bf3 zae; have p118 : 0 ≤ ((ji21) : Int) := M.dt; have q118 : (ji21) < (l0_1.length : Int) := M.dt; obtain ⟨ad118, e118, hx118_0, hx118_1⟩ := at_T78 HR0_1.out (ji21) p118 q118; obtain rfl : ad115 = ad118 := (by injection e118); replace hx118_0 := M.hc HB hx118_0; replace hx118_1 := M.hc HB hx118_1; replace p118 := eq_true p118; replace q118 := eq_true q118; obtain ⟨za9, zba⟩ := M.bc2 (w := w29) (a := .string ((rd_T78 l0_1 x27_2).f0)) (b := .string ((rd_T78 l0_1 x27_2).f1)) zaM.out; obtain ⟨zbb, zbc⟩ := M.bf2 zaM)); try go_wp2_with (first | ((with_reducible refine gate_dst (N := 4) rfl ?_); (try (refine gate_guard (by rfl) ?_; dsimp only)); refine M.bx 4 78 (#[.string (⟨#[]⟩ : ByteArray), .string (⟨#[]⟩ : ByteArray)]) ?_; intro zaL hg w25 hbox hb; have zaM := Aside0.mk (hbox); have zaN := M.upG HB hg; have zaO := M.upG HB hg; replace HB := M.upS HB hb; have zaP := M.bkL zae hg; have zaQ := M.bkG zae hg; replace zae := M.bkB zae hb; clear hb hbox hg; have zaR := zaQ.out; have zaS := zaP.out; obtain ⟨zaT, zaU⟩ := M.bc2 (w := w25) (a := .string (⟨#[]⟩ : ByteArray)) (b := .string (⟨#[]⟩ : ByteArray)) zaM.out; obtain ⟨zaV, zaW⟩ := M.bf2 zaM; obtain ⟨zaX, zaY, zaZ⟩ := M.bc3 (w := w25) (a := .int .i64 a0_0) (b := .slice (some ad115) l0_1.length c0_1) (c := .slice A0_2 l0_2.length c0_2) zae.out; obtain ⟨za0, za1, za2⟩ := M.bf3 zae) | (go_at_call 96; (with_reducible refine (chunk_fits.calls a0_0 ((rd_T78 l0_1 x27_2).f0) ((rd_T78 l0_1 x27_2).f1) true _ A18.out).mono ?_); rintro e w29 ⟨rfl, hb⟩; replace zae := Aside0.mk (blk_below (g := zad) (o := .cells #[.int .i64 a0_0, .slice (some ad115) l0_1.length c0_1, .slice A0_2 l0_2.length c0_2] 26 (0, 0)) (by refine M.fr ?_ zaP; refine M.fr ?_ zaP; exact M.bk zae) hb); replace zaM := Aside0.mk (blk_below (g := zaL) (o := .cells #[.string ((rd_T78 l0_1 x27_2).f0), .string ((rd_T78 l0_1 x27_2).f1)] 78 (0, 0)) (by refine M.fp (cs := #[.string ((rd_T78 l0_1 x27_2).f0), .string (⟨#[]⟩ : ByteArray)]) ?_ 1; refine M.fp (cs := #[.string (⟨#[]⟩ : ByteArray), .string (⟨#[]⟩ : ByteArray)]) ?_ 0; exact M.bk zaM) hb); replace HB := M.upS HB hb; (try clear hb); (try clear hb2); (try clear hk); (try clear hi); obtain ⟨za3, za4, za5⟩ := M.bc3 (w := w29) (a := .int .i64 a0_0) (b := .slice (some ad115) l0_1.length c0_1) (c := .slice A0_2 l0_2.length c0_2) zae.out; obtain ⟨za6, za7, za8⟩ := M.bf3 zae; have p118 : 0 ≤ ((ji21) : Int) := M.dt; have q118 : (ji21) < (l0_1.length : Int) := M.dt; obtain ⟨ad118, e118, hx118_0, hx118_1⟩ := at_T78 HR0_1.out (ji21) p118 q118; obtain rfl : ad115 = ad118 := (by injection e118); replace hx118_0 := M.hc HB hx118_0; replace hx118_1 := M.hc HB hx118_1; replace p118 := eq_true p118; replace q118 := eq_true q118; obtain ⟨za9, zba⟩ := M.bc2 (w := w29) (a := .string ((rd_T78 l0_1 x27_2).f0)) (b := .string ((rd_T78 l0_1 x27_2).f1)) zaM.out; obtain ⟨zbb, zbc⟩ := M.bf2 zaM)))
              go_roundg k2
              case measure => have := HJ1.out; have := HK2.out; omega
              case rel => exact ⟨(wrap64 (x27_2 + 1)), M.eqv, H', ⟨by have := HJ1.out; have := HK2.out; omega⟩, ⟨M.bk zae⟩, ⟨M.up HB⟩⟩
             ·rw [if_neg c24] at H
              have c24b0 : (Op.bytesLess (((rd_T78 l0_1 (ji21)).f0).toList) (((rd_T78 l0_1 x27_2).f0).toList)) = false := by simpa using c24
              clear c24
              obtain rfl := Option.some.inj H
              have p115 : 0 ≤ (x27_2 : Int) := M.dt
              have q115 : x27_2 < (l0_1.length : Int) := M.dt
              obtain ⟨ad115, e115, hx115_0, hx115_1⟩ := at_T78 HR0_1.out x27_2 p115 q115
              cases e115
              replace hx115_0 := M.hc HB hx115_0
              replace hx115_1 := M.hc HB hx115_1
              replace p115 := eq_true p115
              replace q115 := eq_true q115
              go_wp2_with (first | ((with_reducible refine gate_dst (N := 4) rfl ?_); ((refine gate_guard (by rfl) ?_; dsimp only)); refine M.bx 4 78 (#[.string (⟨#[]⟩ : ByteArray), .string (⟨#[]⟩ : ByteArray)]) ?_; intro zaL hg w32 hbox hb; have zaM := Aside0.mk (hbox); have zaN := M.upG HB hg; have zaO := M.upG HB hg; replace HB := M.upS HB hb; have zaP := M.bkL zae hg; have zaQ := M.bkG zae hg; replace zae := M.bkB zae hb; clear hb hbox hg; have zbd := zaQ.out; have zbe := zaP.out; obtain ⟨zbf, zbg⟩ := M.bc2 (w := w32) (a := .string (⟨#[]⟩ : ByteArray)) (b := .string (⟨#[]⟩ : ByteArray)) zaM.out; obtain ⟨zbh, zbi⟩ := M.bf2 zaM; obtain ⟨zbj, zbk, zbl⟩ := M.bc3 (w := w32) (a := .int .i64 a0_0) (b := .slice (some ad115) l0_1.length c0_1) (c := .slice A0_2 l0_2.length c0_2) zae.out; obtain ⟨zbm, zbn, zbo⟩ := M.bf3 zae) | (go_at_call 96; (with_reducible refine (chunk_fits.calls a0_0 ((rd_T78 l0_1 x27_2).f0) ((rd_T78 l0_1 x27_2).f1) true _ A18.out).mono ?_); rintro e w36 ⟨rfl, hb⟩; replace zae := Aside0.mk (blk_below (g := zad) (o := .cells #[.int .i64 a0_0, .slice (some ad115) l0_1.length c0_1, .slice A0_2 l0_2.length c0_2] 26 (0, 0)) (by refine M.fr ?_ zaP; refine M.fr ?_ zaP; exact M.bk zae) hb); replace zaM := Aside0.mk (blk_below (g := zaL) (o := .cells #[.string ((rd_T78 l0_1 x27_2).f0), .string ((rd_T78 l0_1 x27_2).f1)] 78 (0, 0)) (by refine M.fp (cs := #[.string ((rd_T78 l0_1 x27_2).f0), .string (⟨#[]⟩ : ByteArray)]) ?_ 1; refine M.fp (cs := #[.string (⟨#[]⟩ : ByteArray), .string (⟨#[]⟩ : ByteArray)]) ?_ 0; exact M.bk zaM) hb); replace HB := M.upS HB hb; clear hb; obtain ⟨zbp, zbq, zbr⟩ := M.bc3 (w := w36) (a := .int .i64 a0_0) (b := .slice (some ad115) l0_1.length c0_1) (c := .slice A0_2 l0_2.length c0_2) zae.out; obtain ⟨zbs, zbt, zbu⟩ := M.bf3 zae; have p118 : 0 ≤ ((ji21) : Int) := M.dt; have q118 : (ji21) < (l0_1.length : Int) := M.dt; obtain ⟨ad118, e118, hx118_0, hx118_1⟩ := at_T78 HR0_1.out (ji21) p118 q118; obtain rfl : ad115 = ad118 := (by injection e118); replace hx118_0 := M.hc HB hx118_0; replace hx118_1 := M.hc HB hx118_1; replace p118 := eq_true p118; replace q118 := eq_true q118; obtain ⟨zbv, zbw⟩ := M.bc2 (w := w36) (a := .string ((rd_T78 l0_1 x27_2).f0)) (b := .string ((rd_T78 l0_1 x27_2).f1)) zaM.out; obtain ⟨zbx, zby⟩ := M.bf2 zaM))
              repeat (go_quiet (first | ((with_reducible refine gate_dst (N := 4) rfl ?_); (try (refine gate_guard (by rfl) ?_; dsimp only)); refine M.bx 4 78 (#[.string (⟨#[]⟩ : ByteArray), .string (⟨#[]⟩ : ByteArray)]) ?_; intro zaL hg w32 hbox hb; have zaM := Aside0.mk (hbox); have zaN := M.upG HB hg; have zaO := M.upG HB hg; replace HB := M.upS HB hb; have zaP := M.bkL zae hg; have zaQ := M.bkG zae hg; replace zae := M.bkB zae hb; clear hb hbox hg; have zbd := zaQ.out; have zbe := zaP.out; obtain ⟨zbf, zbg⟩ := M.bc2 (w := w32) (a := .string (⟨#[]⟩ : ByteArray)) (b := .string (⟨#[]⟩ : ByteArray)) zaM.out; obtain ⟨zbh, zbi⟩ := M.bf2 zaM; obtain ⟨zbj, zbk, zbl⟩ := M.bc3 (w := w32) (a := .int .i64 a0_0) (b := .slice (some ad115) l0_1.length c0_1) (c := .slice A0_2 l0_2.length c0_2) zae.out; obtain ⟨zbm, zbn, zbo⟩ := M.bf3 zae) | (go_at_call 96; (with_reducible refine (chunk_fits.calls a0_0 ((rd_T78 l0_1 x27_2).f0) ((rd_T78 l0_1 x27_2).f1) true _ A18.out).mono ?_); rintro e w36 ⟨rfl, hb⟩; replace zae := Aside0.mk (blk_below (g := zad) (o := .cells #[.int .i64 a0_0, .slice (some ad115) l0_1.length c0_1, .slice A0_2 l0_2.length c0_2] 26 (0, 0)) (by refine M.fr ?_ zaP; refine M.fr ?_ zaP; exact M.bk zae) hb); replace zaM := Aside0.mk (blk_below (g := zaL) (o := .cells #[.string ((rd_T78 l0_1 x27_2).f0), .string ((rd_T78 l0_1 x27_2).f1)] 78 (0, 0)) (by refine M.fp (cs := #[.string ((rd_T78 l0_1 x27_2).f0), .string (⟨#[]⟩ : ByteArray)]) ?_ 1; refine M.fp (cs := #[.string (⟨#[]⟩ : ByteArray), .string (⟨#[]⟩ : ByteArray)]) ?_ 0; exact M.bk zaM) hb); replace HB := M.upS HB hb; (try clear hb); (try clear hb2); (try clear hk); (try clear hi); obtain ⟨zbp, zbq, zbr⟩ := M.bc3 (w := w36) (a := .int .i64 a0_0) (b := .slice (some ad115) l0_1.length c0_1) (c := .slice A0_2 l0_2.length c0_2) zae.out; obtain ⟨zbs, zbt, zbu⟩ := M.bf3 zae; have p118 : 0 ≤ ((ji21) : Int) := M.dt; have q118 : (ji21) < (l0_1.length : Int) := M.dt; obtain ⟨ad118, e118, hx118_0, hx118_1⟩ := at_T78 HR0_1.out (ji21) p118 q118; obtain rfl : ad115 = ad118 := (by injection e118); replace hx118_0 := M.hc HB hx118_0; replace hx118_1 := M.hc HB hx118_1; replace p118 := eq_true p118; replace q118 := eq_true q118; obtain ⟨zbv, zbw⟩ := M.bc2 (w := w36) (a := .string ((rd_T78 l0_1 x27_2).f0)) (b := .string ((rd_T78 l0_1 x27_2).f1)) zaM.out; obtain ⟨zbx, zby⟩ := M.bf2 zaM)); try go_wp2_with (first | ((with_reducible refine gate_dst (N := 4) rfl ?_); (try (refine gate_guard (by rfl) ?_; dsimp only)); refine M.bx 4 78 (#[.string (⟨#[]⟩ : ByteArray), .string (⟨#[]⟩ : ByteArray)]) ?_; intro zaL hg w32 hbox hb; have zaM := Aside0.mk (hbox); have zaN := M.upG HB hg; have zaO := M.upG HB hg; replace HB := M.upS HB hb; have zaP := M.bkL zae hg; have zaQ := M.bkG zae hg; replace zae := M.bkB zae hb; clear hb hbox hg; have zbd := zaQ.out; have zbe := zaP.out; obtain ⟨zbf, zbg⟩ := M.bc2 (w := w32) (a := .string (⟨#[]⟩ : ByteArray)) (b := .string (⟨#[]⟩ : ByteArray)) zaM.out; obtain ⟨zbh, zbi⟩ := M.bf2 zaM; obtain ⟨zbj, zbk, zbl⟩ := M.bc3 (w := w32) (a := .int .i64 a0_0) (b := .slice (some ad115) l0_1.length c0_1) (c := .slice A0_2 l0_2.length c0_2) zae.out; obtain ⟨zbm, zbn, zbo⟩ := M.bf3 zae) | (go_at_call 96; (with_reducible refine (chunk_fits.calls a0_0 ((rd_T78 l0_1 x27_2).f0) ((rd_T78 l0_1 x27_2).f1) true _ A18.out).mono ?_); rintro e w36 ⟨rfl, hb⟩; replace zae := Aside0.mk (blk_below (g := zad) (o := .cells #[.int .i64 a0_0, .slice (some ad115) l0_1.length c0_1, .slice A0_2 l0_2.length c0_2] 26 (0, 0)) (by refine M.fr ?_ zaP; refine M.fr ?_ zaP; exact M.bk zae) hb); replace zaM := Aside0.mk (blk_below (g := zaL) (o := .cells #[.string ((rd_T78 l0_1 x27_2).f0), .string ((rd_T78 l0_1 x27_2).f1)] 78 (0, 0)) (by refine M.fp (cs := #[.string ((rd_T78 l0_1 x27_2).f0), .string (⟨#[]⟩ : ByteArray)]) ?_ 1; refine M.fp (cs := #[.string (⟨#[]⟩ : ByteArray), .string (⟨#[]⟩ : ByteArray)]) ?_ 0; exact M.bk zaM) hb); replace HB := M.upS HB hb; (try clear hb); (try clear hb2); (try clear hk); (try clear hi); obtain ⟨zbp, zbq, zbr⟩ := M.bc3 (w := w36) (a := .int .i64 a0_0) (b := .slice (some ad115) l0_1.length c0_1) (c := .slice A0_2 l0_2.length c0_2) zae.out; obtain ⟨zbs, zbt, zbu⟩ := M.bf3 zae; have p118 : 0 ≤ ((ji21) : Int) := M.dt; have q118 : (ji21) < (l0_1.length : Int) := M.dt; obtain ⟨ad118, e118, hx118_0, hx118_1⟩ := at_T78 HR0_1.out (ji21) p118 q118; obtain rfl : ad115 = ad118 := (by injection e118); replace hx118_0 := M.hc HB hx118_0; replace hx118_1 := M.hc HB hx118_1; replace p118 := eq_true p118; replace q118 := eq_true q118; obtain ⟨zbv, zbw⟩ := M.bc2 (w := w36) (a := .string ((rd_T78 l0_1 x27_2).f0)) (b := .string ((rd_T78 l0_1 x27_2).f1)) zaM.out; obtain ⟨zbx, zby⟩ := M.bf2 zaM)))
              go_ret
              exact ⟨by (rfl), M.up HB⟩
            ·exact M.nf c23 H
           ·exact M.nf c22 H
          ·rw [if_neg c20] at H
           have c20b0 := decide_eq_false c20
           clear c20
           have H' := Aside0.mk H
           clear H
           have p115 : 0 ≤ (x27_2 : Int) := M.dt
           have q115 : x27_2 < (l0_1.length : Int) := M.dt
           obtain ⟨ad115, e115, hx115_0, hx115_1⟩ := at_T78 HR0_1.out x27_2 p115 q115
           cases e115
           replace hx115_0 := M.hc HB hx115_0
           replace hx115_1 := M.hc HB hx115_1
           replace p115 := eq_true p115
           replace q115 := eq_true q115
           go_wp2_with (first | ((with_reducible refine gate_dst (N := 4) rfl ?_); ((refine gate_guard (by rfl) ?_; dsimp only)); refine M.bx 4 78 (#[.string (⟨#[]⟩ : ByteArray), .string (⟨#[]⟩ : ByteArray)]) ?_; intro zaL hg w39 hbox hb; have zaM := Aside0.mk (hbox); have zaN := M.upG HB hg; have zaO := M.upG HB hg; replace HB := M.upS HB hb; have zaP := M.bkL zae hg; have zaQ := M.bkG zae hg; replace zae := M.bkB zae hb; clear hb hbox hg; have zbz := zaQ.out; have zbA := zaP.out; obtain ⟨zbB, zbC⟩ := M.bc2 (w := w39) (a := .string (⟨#[]⟩ : ByteArray)) (b := .string (⟨#[]⟩ : ByteArray)) zaM.out; obtain ⟨zbD, zbE⟩ := M.bf2 zaM; obtain ⟨zbF, zbG, zbH⟩ := M.bc3 (w := w39) (a := .int .i64 a0_0) (b := .slice (some ad115) l0_1.length c0_1) (c := .slice A0_2 l0_2.length c0_2) zae.out; obtain ⟨zbI, zbJ, zbK⟩ := M.bf3 zae) | (go_at_call 96; (with_reducible refine (chunk_fits.calls a0_0 ((rd_T78 l0_1 x27_2).f0) ((rd_T78 l0_1 x27_2).f1) true _ A18.out).mono ?_); rintro e w43 ⟨rfl, hb⟩; replace zae := Aside0.mk (blk_below (g := zad) (o := .cells #[.int .i64 a0_0, .slice (some ad115) l0_1.length c0_1, .slice A0_2 l0_2.length c0_2] 26 (0, 0)) (by refine M.fr ?_ zaP; refine M.fr ?_ zaP; exact M.bk zae) hb); replace zaM := Aside0.mk (blk_below (g := zaL) (o := .cells #[.string ((rd_T78 l0_1 x27_2).f0), .string ((rd_T78 l0_1 x27_2).f1)] 78 (0, 0)) (by refine M.fp (cs := #[.string ((rd_T78 l0_1 x27_2).f0), .string (⟨#[]⟩ : ByteArray)]) ?_ 1; refine M.fp (cs := #[.string (⟨#[]⟩ : ByteArray), .string (⟨#[]⟩ : ByteArray)]) ?_ 0; exact M.bk zaM) hb); replace HB := M.upS HB hb; clear hb))
           repeat (go_quiet (first | ((with_reducible refine gate_dst (N := 4) rfl ?_); (try (refine gate_guard (by rfl) ?_; dsimp only)); refine M.bx 4 78 (#[.string (⟨#[]⟩ : ByteArray), .string (⟨#[]⟩ : ByteArray)]) ?_; intro zaL hg w39 hbox hb; have zaM := Aside0.mk (hbox); have zaN := M.upG HB hg; have zaO := M.upG HB hg; replace HB := M.upS HB hb; have zaP := M.bkL zae hg; have zaQ := M.bkG zae hg; replace zae := M.bkB zae hb; clear hb hbox hg; have zbz := zaQ.out; have zbA := zaP.out; obtain ⟨zbB, zbC⟩ := M.bc2 (w := w39) (a := .string (⟨#[]⟩ : ByteArray)) (b := .string (⟨#[]⟩ : ByteArray)) zaM.out; obtain ⟨zbD, zbE⟩ := M.bf2 zaM; obtain ⟨zbF, zbG, zbH⟩ := M.bc3 (w := w39) (a := .int .i64 a0_0) (b := .slice (some ad115) l0_1.length c0_1) (c := .slice A0_2 l0_2.length c0_2) zae.out; obtain ⟨zbI, zbJ, zbK⟩ := M.bf3 zae) | (go_at_call 96; (with_reducible refine (chunk_fits.calls a0_0 ((rd_T78 l0_1 x27_2).f0) ((rd_T78 l0_1 x27_2).f1) true _ A18.out).mono ?_); rintro e w43 ⟨rfl, hb⟩; replace zae := Aside0.mk (blk_below (g := zad) (o := .cells #[.int .i64 a0_0, .slice (some ad115) l0_1.length c0_1, .slice A0_2 l0_2.length c0_2] 26 (0, 0)) (by refine M.fr ?_ zaP; refine M.fr ?_ zaP; exact M.bk zae) hb); replace zaM := Aside0.mk (blk_below (g := zaL) (o := .cells #[.string ((rd_T78 l0_1 x27_2).f0), .string ((rd_T78 l0_1 x27_2).f1)] 78 (0, 0)) (by refine M.fp (cs := #[.string ((rd_T78 l0_1 x27_2).f0), .string (⟨#[]⟩ : ByteArray)]) ?_ 1; refine M.fp (cs := #[.string (⟨#[]⟩ : ByteArray), .string (⟨#[]⟩ : ByteArray)]) ?_ 0; exact M.bk zaM) hb); replace HB := M.upS HB hb; (try clear hb); (try clear hb2); (try clear hk); (try clear hi))); try go_wp2_with (first | ((with_reducible refine gate_dst (N := 4) rfl ?_); (try (refine gate_guard (by rfl) ?_; dsimp only)); refine M.bx 4 78 (#[.string (⟨#[]⟩ : ByteArray), .string (⟨#[]⟩ : ByteArray)]) ?_; intro zaL hg w39 hbox hb; have zaM := Aside0.mk (hbox); have zaN := M.upG HB hg; have zaO := M.upG HB hg; replace HB := M.upS HB hb; have zaP := M.bkL zae hg; have zaQ := M.bkG zae hg; replace zae := M.bkB zae hb; clear hb hbox hg; have zbz := zaQ.out; have zbA := zaP.out; obtain ⟨zbB, zbC⟩ := M.bc2 (w := w39) (a := .string (⟨#[]⟩ : ByteArray)) (b := .string (⟨#[]⟩ : ByteArray)) zaM.out; obtain ⟨zbD, zbE⟩ := M.bf2 zaM; obtain ⟨zbF, zbG, zbH⟩ := M.bc3 (w := w39) (a := .int .i64 a0_0) (b := .slice (some ad115) l0_1.length c0_1) (c := .slice A0_2 l0_2.length c0_2) zae.out; obtain ⟨zbI, zbJ, zbK⟩ := M.bf3 zae) | (go_at_call 96; (with_reducible refine (chunk_fits.calls a0_0 ((rd_T78 l0_1 x27_2).f0) ((rd_T78 l0_1 x27_2).f1) true _ A18.out).mono ?_); rintro e w43 ⟨rfl, hb⟩; replace zae := Aside0.mk (blk_below (g := zad) (o := .cells #[.int .i64 a0_0, .slice (some ad115) l0_1.length c0_1, .slice A0_2 l0_2.length c0_2] 26 (0, 0)) (by refine M.fr ?_ zaP; refine M.fr ?_ zaP; exact M.bk zae) hb); replace zaM := Aside0.mk (blk_below (g := zaL) (o := .cells #[.string ((rd_T78 l0_1 x27_2).f0), .string ((rd_T78 l0_1 x27_2).f1)] 78 (0, 0)) (by refine M.fp (cs := #[.string ((rd_T78 l0_1 x27_2).f0), .string (⟨#[]⟩ : ByteArray)]) ?_ 1; refine M.fp (cs := #[.string (⟨#[]⟩ : ByteArray), .string (⟨#[]⟩ : ByteArray)]) ?_ 0; exact M.bk zaM) hb); replace HB := M.upS HB hb; (try clear hb); (try clear hb2); (try clear hk); (try clear hi))))
           go_roundg k2
           case measure => have := HJ1.out; have := HK2.out; omega
           case rel => exact ⟨(wrap64 (x27_2 + 1)), M.eqv, H', ⟨by have := HJ1.out; have := HK2.out; omega⟩, ⟨M.bk zae⟩, ⟨M.up HB⟩⟩
         ·replace c19 := Bool.eq_false_iff.mpr c19
          subst c19
          have H1 : (some 2) = some r := by rw [if_neg (show ¬ (false = true) by decide)] at H; exact H
          clear H
          have H := H1
          clear H1
          obtain rfl := Option.some.inj H
          have p115 : 0 ≤ (x27_2 : Int) := M.dt
          have q115 : x27_2 < (l0_1.length : Int) := M.dt
          obtain ⟨ad115, e115, hx115_0, hx115_1⟩ := at_T78 HR0_1.out x27_2 p115 q115
          cases e115
          replace hx115_0 := M.hc HB hx115_0
          replace hx115_1 := M.hc HB hx115_1
          replace p115 := eq_true p115
          replace q115 := eq_true q115
          go_wp2_with (first | ((with_reducible refine gate_dst (N := 4) rfl ?_); ((refine gate_guard (by rfl) ?_; dsimp only)); refine M.bx 4 78 (#[.string (⟨#[]⟩ : ByteArray), .string (⟨#[]⟩ : ByteArray)]) ?_; intro zaL hg w44 hbox hb; have zaM := Aside0.mk (hbox); have zaN := M.upG HB hg; have zaO := M.upG HB hg; replace HB := M.upS HB hb; have zaP := M.bkL zae hg; have zaQ := M.bkG zae hg; replace zae := M.bkB zae hb; clear hb hbox hg; have zbL := zaQ.out; have zbM := zaP.out; obtain ⟨zbN, zbO⟩ := M.bc2 (w := w44) (a := .string (⟨#[]⟩ : ByteArray)) (b := .string (⟨#[]⟩ : ByteArray)) zaM.out; obtain ⟨zbP, zbQ⟩ := M.bf2 zaM; obtain ⟨zbR, zbS, zbT⟩ := M.bc3 (w := w44) (a := .int .i64 a0_0) (b := .slice (some ad115) l0_1.length c0_1) (c := .slice A0_2 l0_2.length c0_2) zae.out; obtain ⟨zbU, zbV, zbW⟩ := M.bf3 zae) | (go_at_call 96; (with_reducible refine (chunk_fits.calls a0_0 ((rd_T78 l0_1 x27_2).f0) ((rd_T78 l0_1 x27_2).f1) false _ A18.out).mono ?_); rintro e w48 ⟨rfl, hb⟩; replace zae := Aside0.mk (blk_below (g := zad) (o := .cells #[.int .i64 a0_0, .slice (some ad115) l0_1.length c0_1, .slice A0_2 l0_2.length c0_2] 26 (0, 0)) (by refine M.fr ?_ zaP; refine M.fr ?_ zaP; exact M.bk zae) hb); replace zaM := Aside0.mk (blk_below (g := zaL) (o := .cells #[.string ((rd_T78 l0_1 x27_2).f0), .string ((rd_T78 l0_1 x27_2).f1)] 78 (0, 0)) (by refine M.fp (cs := #[.string ((rd_T78 l0_1 x27_2).f0), .string (⟨#[]⟩ : ByteArray)]) ?_ 1; refine M.fp (cs := #[.string (⟨#[]⟩ : ByteArray), .string (⟨#[]⟩ : ByteArray)]) ?_ 0; exact M.bk zaM) hb); replace HB := M.upS HB hb; clear hb))
          repeat (go_quiet (first | ((with_reducible refine gate_dst (N := 4) rfl ?_); (try (refine gate_guard (by rfl) ?_; dsimp only)); refine M.bx 4 78 (#[.string (⟨#[]⟩ : ByteArray), .string (⟨#[]⟩ : ByteArray)]) ?_; intro zaL hg w44 hbox hb; have zaM := Aside0.mk (hbox); have zaN := M.upG HB hg; have zaO := M.upG HB hg; replace HB := M.upS HB hb; have zaP := M.bkL zae hg; have zaQ := M.bkG zae hg; replace zae := M.bkB zae hb; clear hb hbox hg; have zbL := zaQ.out; have zbM := zaP.out; obtain ⟨zbN, zbO⟩ := M.bc2 (w := w44) (a := .string (⟨#[]⟩ : ByteArray)) (b := .string (⟨#[]⟩ : ByteArray)) zaM.out; obtain ⟨zbP, zbQ⟩ := M.bf2 zaM; obtain ⟨zbR, zbS, zbT⟩ := M.bc3 (w := w44) (a := .int .i64 a0_0) (b := .slice (some ad115) l0_1.length c0_1) (c := .slice A0_2 l0_2.length c0_2) zae.out; obtain ⟨zbU, zbV, zbW⟩ := M.bf3 zae) | (go_at_call 96; (with_reducible refine (chunk_fits.calls a0_0 ((rd_T78 l0_1 x27_2).f0) ((rd_T78 l0_1 x27_2).f1) false _ A18.out).mono ?_); rintro e w48 ⟨rfl, hb⟩; replace zae := Aside0.mk (blk_below (g := zad) (o := .cells #[.int .i64 a0_0, .slice (some ad115) l0_1.length c0_1, .slice A0_2 l0_2.length c0_2] 26 (0, 0)) (by refine M.fr ?_ zaP; refine M.fr ?_ zaP; exact M.bk zae) hb); replace zaM := Aside0.mk (blk_below (g := zaL) (o := .cells #[.string ((rd_T78 l0_1 x27_2).f0), .string ((rd_T78 l0_1 x27_2).f1)] 78 (0, 0)) (by refine M.fp (cs := #[.string ((rd_T78 l0_1 x27_2).f0), .string (⟨#[]⟩ : ByteArray)]) ?_ 1; refine M.fp (cs := #[.string (⟨#[]⟩ : ByteArray), .string (⟨#[]⟩ : ByteArray)]) ?_ 0; exact M.bk zaM) hb); replace HB := M.upS HB hb; (try clear hb); (try clear hb2); (try clear hk); (try clear hi))); try go_wp2_with (first | ((with_reducible refine gate_dst (N := 4) rfl ?_); (try (refine gate_guard (by rfl) ?_; dsimp only)); refine M.bx 4 78 (#[.string (⟨#[]⟩ : ByteArray), .string (⟨#[]⟩ : ByteArray)]) ?_; intro zaL hg w44 hbox hb; have zaM := Aside0.mk (hbox); have zaN := M.upG HB hg; have zaO := M.upG HB hg; replace HB := M.upS HB hb; have zaP := M.bkL zae hg; have zaQ := M.bkG zae hg; replace zae := M.bkB zae hb; clear hb hbox hg; have zbL := zaQ.out; have zbM := zaP.out; obtain ⟨zbN, zbO⟩ := M.bc2 (w := w44) (a := .string (⟨#[]⟩ : ByteArray)) (b := .string (⟨#[]⟩ : ByteArray)) zaM.out; obtain ⟨zbP, zbQ⟩ := M.bf2 zaM; obtain ⟨zbR, zbS, zbT⟩ := M.bc3 (w := w44) (a := .int .i64 a0_0) (b := .slice (some ad115) l0_1.length c0_1) (c := .slice A0_2 l0_2.length c0_2) zae.out; obtain ⟨zbU, zbV, zbW⟩ := M.bf3 zae) | (go_at_call 96; (with_reducible refine (chunk_fits.calls a0_0 ((rd_T78 l0_1 x27_2).f0) ((rd_T78 l0_1 x27_2).f1) false _ A18.out).mono ?_); rintro e w48 ⟨rfl, hb⟩; replace zae := Aside0.mk (blk_below (g := zad) (o := .cells #[.int .i64 a0_0, .slice (some ad115) l0_1.length c0_1, .slice A0_2 l0_2.length c0_2] 26 (0, 0)) (by refine M.fr ?_ zaP; refine M.fr ?_ zaP; exact M.bk zae) hb); replace zaM := Aside0.mk (blk_below (g := zaL) (o := .cells #[.string ((rd_T78 l0_1 x27_2).f0), .string ((rd_T78 l0_1 x27_2).f1)] 78 (0, 0)) (by refine M.fp (cs := #[.string ((rd_T78 l0_1 x27_2).f0), .string (⟨#[]⟩ : ByteArray)]) ?_ 1; refine M.fp (cs := #[.string (⟨#[]⟩ : ByteArray), .string (⟨#[]⟩ : ByteArray)]) ?_ 0; exact M.bk zaM) hb); replace HB := M.upS HB hb; (try clear hb); (try clear hb2); (try clear hk); (try clear hi))))
          go_ret
          exact M.fin (M.up HB)
        ·exact M.nf c17 H
       ·exact M.nf c16 H
      ·rw [if_neg c15] at H
       have c15b0 := decide_eq_false c15
       clear c15
       obtain rfl := Option.some.inj H
       go_wp2
       repeat (go_quiet (fail); try go_wp2)
       go_ret
       exact M.fin (M.up HB)
def chunk_Check.f (a0_0 : Int) (l0_1 : List S78) (l0_2 : List Int) : Option Int := if l0_2.length ≤ 9223372036854775806 ∧ l0_1.length ≤ 9223372036854775806 then some (chunk_fits.wrong a0_0 l0_1 l0_2) else none
theorem chunk_Check.loop (lv : Int) (es : List S78) (cs : List Int) (hc : es.length ≤ 9223372036854775806) (d : Nat) : ∀ i : Nat, i + d = es.length →
    chunk_Check_p.l0 (d + 1) es (es.length : Int) (i : Int) lv es cs = some (chunk_fits.go lv (if i = 0 then none else some (rd_T78 es ((i : Int) - 1)).f0) (es.drop i)) := by
 induction d with
 | zero =>
  intro i hi
  simp only [chunk_Check_p.l0]
  rw [if_neg (by omega), List.drop_of_length_le (by omega)]
  cases (if i = 0 then none else some (rd_T78 es ((i : Int) - 1)).f0) <;> rfl
 | succ d ih =>
  intro i hi
  have hlt : i < es.length := by omega
  have hrd : rd_T78 es (i : Int) = es[i] := by simp [rd_T78, List.getD, hlt]
  have hn := ih (i + 1) (by omega)
  rw [if_neg (by omega), show ((i + 1 : Nat) : Int) - 1 = (i : Int) from by omega, hrd] at hn
  rw [chunk_Check_p.l0, if_pos (by omega), if_pos (by omega), if_pos (by omega), hrd]
  unfold chunk_fits.f
  rw [Option.bind_some, M.wrap64_id (i := (i : Int) + 1) (by omega) (by omega), show (i : Int) + 1 = ((i + 1 : Nat) : Int) from by omega, hn, List.drop_eq_getElem_cons hlt]
  generalize es[i] = e
  rw [chunk_fits.go.eq_def lv _ (e :: es.drop (i + 1))]
  simp only
  by_cases hk : chunk_fits.ok lv e.f0 e.f1 = true
  ·rw [if_pos hk, if_pos hk]
   by_cases h0 : i = 0
   ·rw [if_neg (by omega), if_pos h0]
   ·rw [if_pos (by omega), if_neg h0, M.wrap64_id (i := (i : Int) - 1) (by omega) (by omega), if_pos (by omega), if_pos (by omega)]
    simp only
    split <;> rfl
  ·rw [if_neg hk, if_neg hk]
theorem chunk_Check.ev (lv : Int) (es : List S78) (cs : List Int) (r : Int) (h : chunk_Check.f lv es cs = some r) : ∃ k, chunk_Check_p.f k lv es cs = some r := by
 unfold chunk_Check.f at h
 split at h
 case isFalse => cases h
 case isTrue hh =>
  have hj : ∀ b, chunk_Check_p.j0 (es.length + 2) b lv es cs = some (if b = true then 2 else chunk_fits.go lv none es) := by
   intro b
   have := chunk_Check.loop lv es cs hh.2 es.length 0 (by omega)
   rw [if_pos rfl, List.drop_zero] at this
   rw [show es.length + 2 = (es.length + 1) + 1 from rfl, chunk_Check_p.j0]
   cases b with
   | true => rfl
   | false => rw [if_neg (by simp), if_neg (by simp)]; exact this
  refine ⟨es.length + 2, ?_⟩
  rw [← h]
  unfold chunk_Check_p.f chunk_counted.f
  rw [if_pos hh, Option.bind_some]
  simp only [hj]
  have w2 : (lv < 0 ∨ 40 < lv ∨ 8 < es.length ∨ chunk_fits.counted lv es cs = false) → chunk_fits.wrong lv es cs = 2 := fun z => by unfold chunk_fits.wrong; rw [if_pos z]
  have w0 : ¬ (lv < 0 ∨ 40 < lv ∨ 8 < es.length ∨ chunk_fits.counted lv es cs = false) → chunk_fits.wrong lv es cs = chunk_fits.go lv none es := fun z => by unfold chunk_fits.wrong; rw [if_neg z]
  by_cases h0 : lv < 0
  ·rw [if_pos h0, w2 (.inl h0)]; rfl
  ·rw [if_neg h0]
   by_cases h1 : lv > 40
   ·rw [if_pos h1, w2 (.inr (.inl h1))]; rfl
   ·rw [if_neg h1]
    by_cases h2 : (es.length : Int) > 8
    ·rw [if_pos h2, w2 (.inr (.inr (.inl (by omega))))]; rfl
    ·rw [if_neg h2]
     cases hb : chunk_fits.counted lv es cs with
     | false => rw [w2 (.inr (.inr (.inr hb)))]; rfl
     | true =>
      have c : ¬ (lv < 0 ∨ 40 < lv ∨ 8 < es.length ∨ chunk_fits.counted lv es cs = false) := by rw [hb]; simp; omega
      rw [w0 c]; rfl
theorem chunk_Check.calls (a0_0 : Int) (A0_1 : Option Addr) (c0_1 : Nat) (l0_1 : List (S78)) (A0_2 : Option Addr) (c0_2 : Nat) (l0_2 : List Int) (r : Int) (w : World) (hr0_1 : Kd.C k78 w A0_1 l0_1.length l0_1) (hc0_1 : l0_1.length ≤ c0_1) (hr0_2 : Kd.C (Kd.int .i64) w A0_2 l0_2.length l0_2) (hc0_2 : l0_2.length ≤ c0_2) (h : chunk_Check.f a0_0 l0_1 l0_2 = some r) :
    Calls Tryd.prog 80 #[.agg #[.int .i64 a0_0, .slice A0_1 l0_1.length c0_1, .slice A0_2 l0_2.length c0_2]] w fun e w' => e = .returned (.int .i64 r) ∧ Below w.heap.size w w' := by
 obtain ⟨k, hk⟩ := chunk_Check.ev _ _ _ _ h
 exact chunk_Check_p.calls (k := k) (w := w) (h := hk) (hr0_1 := hr0_1) (hc0_1 := hc0_1) (hr0_2 := hr0_2) (hc0_2 := hc0_2)
def varint_Put.f (a0 : Int) : Option ByteArray := if 0 ≤ a0 ∧ a0 < 18446744073709551616 then some (M.sb (M.vb a0.toNat)) else none
def varint_Put.inv (W w : World) (a0 : Nat) (m k : Nat) (pre : List Int) : Prop :=
  k ≤ 9 ∧ pre.length = k ∧ m < 2 * 128 ^ (9 - k) ∧ pre ++ M.vput m = M.vput a0 ∧
  W.ownsRow w.heap.size 163 1 (.slice (some ⟨w.heap.size, 0, none⟩) 10 10) 10 (nums .u8 (pre ++ List.replicate (10 - k) 0)) ∧ Below w.heap.size w W
theorem varint_Put.slice_ (b k : Nat) (hk : k ≤ 9) (W : World) :
    (Instr.sliceAt 163 (.pointer (some ⟨b, 0, none⟩)) none (some (.int .i64 ((k : Int) + 1))) none).run Tryd.prog W = .ok (.slice (some ⟨b, 0, none⟩) (k + 1) 10) W := by
 have ha : Tryd.prog.arrayLen 163 = 10 := by kernel_rfl
 rw [run_sliceAt_array_h W 163 _ (by kernel_rfl) .i64 _ (by omega) (by rw [ha]; omega), ha]
 have hs : (sizeOf (Tryd.prog.elem 163)).run Tryd.prog W = .ok 1 W := by kernel_rfl
 rw [hs]
 simp [Result.andThen, slicedAt, add_plain]
set_option maxHeartbeats 1000000 in
theorem varint_Put.nat (a0 : Nat) (w : World) (h1 : a0 < 18446744073709551616) :
    Calls Tryd.prog 106 #[.int .u64 a0] w fun e w' => e = .returned (.string (strOfNums (M.vput a0))) ∧ Below w.heap.size w w' := by
 go_enter Tryd.func106, Tryd.ntmps106
 go_wp2
 go_loopw [0, 4] (fun n i wr => ∃ (m k : Nat) (pre : List Int), n = .int .u64 m ∧ i = .int .i64 k ∧ varint_Put.inv wr w a0 m k pre) (fun n _ _ => (intOf n).toNat)
 case atStart =>
  refine ⟨a0, 0, [], rfl, rfl, Nat.zero_le _, rfl, by simpa using h1, rfl, ?_, below_alloc (Below.refl _ _) _⟩
  exact World.ownsRow_lit (base := w.heap.size) (e := 163) (size := 1) w #[Value.int IntKind.u8 0, Value.int IntKind.u8 0, Value.int IntKind.u8 0, Value.int IntKind.u8 0, Value.int IntKind.u8 0, Value.int IntKind.u8 0, Value.int IntKind.u8 0, Value.int IntKind.u8 0, Value.int IntKind.u8 0, Value.int IntKind.u8 0] 10 (Nat.le_refl _) (by decide) rfl
 case round =>
  obtain ⟨m, k, pre, rfl, rfl, hk, hl, hm, he, ho, hb⟩ := hrel
  obtain ⟨hc, hf⟩ := own_at ho (k : Int) (by omega) (by omega)
  have hm64 := M.put_m64 hm
  by_cases hlt : m < 128
  ·have ht : decide ((m : Int) ≥ 128) = false := by simp; omega
   have hs := own_store ho (k : Int) ((m : Nat) : Int)
   rw [M.put_set pre k _ hk hl] at hs
   have ht2 := own_take (m := k + 1) hs.1 (by omega)
   have hconv := own_string (P := Tryd.prog) (src := 101) (dst := 9) (e := 5) (xs := (pre ++ [(m : Int)])) (by kernel_rfl) (by kernel_rfl) (by kernel_rfl) (by
    have e : List.take ((k + 1) * 1) (nums .u8 (pre ++ [(m : Int)] ++ List.replicate (10 - (k + 1)) 0)) = nums .u8 (pre ++ [(m : Int)]) := by
     rw [nums_append, Nat.mul_one, List.take_left' (by simp [nums, hl])]
    rw [e] at ht2; exact ht2)
   rw [← M.vput_low hlt, he] at hconv
   have hb' : Below w.heap.size w (wr.setCell ⟨w.heap.size, (k : Int).toNat, none⟩ (.int .u8 m)) := pw_below_grown hb _ hb.size hs.2 (fun q hq => by cases hq; exact Nat.le_refl _)
   have hsl := fun W => varint_Put.slice_ w.heap.size k hk W
   rw [Int.toNat_natCast] at hc hf hconv hb'
   clear ht2 hl he hs ho hm
   go_wp2
   go_ret
   exact ⟨rfl, hb'⟩
  ·have ht : decide ((m : Int) ≥ 128) = true := by simp; omega
   obtain ⟨hk8, hm8⟩ := M.put_bound hk hm hlt
   have hs := own_store ho (k : Int) ((m % 128 + 128 : Nat) : Int)
   rw [M.put_set pre k _ hk hl] at hs
   have hb' : Below w.heap.size w (wr.setCell ⟨w.heap.size, (k : Int).toNat, none⟩ (.int .u8 ((m % 128 + 128 : Nat) : Int))) := pw_below_grown hb _ hb.size hs.2 (fun q hq => by cases hq; exact Nat.le_refl _)
   rw [Int.toNat_natCast] at hc hf hb' hs
   have HH : varint_Put.inv (wr.setCell ⟨w.heap.size, k, none⟩ (.int .u8 ((m % 128 + 128 : Nat) : Int))) w a0 (m / 128) (k + 1) (pre ++ [((m % 128 + 128 : Nat) : Int)]) :=
    ⟨hk8, by simp [hl], hm8, by rw [← he, M.vput_high hlt]; simp, hs.1, hb'⟩
   clear hs hb' hl he ho hm hm8
   have H := Aside0.mk HH
   clear HH
   have hor := M.or128 m
   go_wp2
   go_roundw
   case rel => exact ⟨m / 128, k + 1, _, by go_num, by go_num, H.out⟩
   case measure => simp [intOf]; omega
theorem varint_Put.calls (a0 : Int) (r : ByteArray) (w : World) (h : varint_Put.f a0 = some r) :
    Calls Tryd.prog 106 #[.int .u64 a0] w fun e w' => e = .returned (.string r) ∧ Below w.heap.size w w' := by
 unfold varint_Put.f at h
 split at h
 ·rename_i hh
  obtain ⟨n, rfl⟩ := Int.eq_ofNat_of_zero_le hh.1
  obtain rfl := Option.some.inj h
  have := varint_Put.nat n w (by omega)
  rw [M.vput_vb] at this
  exact this
 ·cases h
def scan_PutNum_p.f (a0 : Int) : Option (ByteArray) := (varint_Put.f (IntKind.u64.wrap (mx a0 0))).bind fun t119 => (some t119)
set_option maxHeartbeats 8000000 in
set_option maxRecDepth 100000 in
theorem scan_PutNum_p.calls (a0 : Int) (r : ByteArray) (w : World) (h : scan_PutNum_p.f a0 = some r) :
    Calls Tryd.prog 101 #[.int .i64 a0] w fun e w' => e = .returned (.string r) ∧ Below w.heap.size w w' := by
 have HB := Aside0.mk (Below.refl w.heap.size w)
 have H := h; unfold scan_PutNum_p.f at H
 clear h
 obtain ⟨ji2, hji2⟩ : ∃ j_ : Int, (mx a0 0) = j_ := ⟨_, rfl⟩
 replace H : ((varint_Put.f (IntKind.u64.wrap (ji2))).bind fun t119 => (some t119)) = some r := by (rw [hji2] at H; exact H)
 ((have hji2l : 0 ≤ ji2 := by (rw [← hji2]; unfold mx; (repeat' split) <;> omega)))
 (have hji2m : 0 ≤ ji2 := by omega)
 have hji2_ : (if a0 < 0 then 0 else a0) = ji2 := hji2
 replace H := Option.bind_eq_some_iff.mp H
 obtain ⟨t119, A30, H⟩ := H
 replace H : (some t119) = some r := H
 have A3 := Aside0.mk A30
 clear A30
 obtain rfl := Option.some.inj H
 go_enter Tryd.func101, Tryd.ntmps101
 go_wp2_with (((with_reducible refine gate_callee (f := 106) rfl ?_); refine goesL_ (some 6) rfl rfl Tryd.func106 (by kernel_rfl) rfl #[.int .u64 (IntKind.u64.wrap (ji2))] rfl (by simp only [List.map_toArray, List.map_cons, List.map_nil]; (rfl)) ?_; (with_reducible refine (varint_Put.calls (IntKind.u64.wrap (ji2)) t119 _ A3.out).mono ?_); rintro e w4 ⟨rfl, hb⟩; refine ⟨_, rfl, ?_⟩; replace HB := M.upS HB hb; clear hb))
 go_ret
 exact ⟨by (rfl), M.up HB⟩
def scan_PutNum.f (a0 : Int) : Option ByteArray := if a0 ≤ 9223372036854775807 then some (M.sb (M.vb a0.toNat)) else none
theorem scan_PutNum.ev (a0 : Int) (r : ByteArray) (h : scan_PutNum.f a0 = some r) : scan_PutNum_p.f a0 = some r := by
 unfold scan_PutNum.f at h
 split at h
 ·rename_i hh
  have e : IntKind.u64.wrap (mx a0 0) = (a0.toNat : Int) := by
   by_cases h0 : 0 ≤ a0
   ·rw [M.mx_ge h0, M.u64_id h0 (by omega)]; omega
   ·rw [M.mx_le (by omega), M.u64_id (by decide) (by decide)]; omega
  unfold scan_PutNum_p.f varint_Put.f
  rw [e, if_pos ⟨by omega, by omega⟩, Option.bind_some, Int.toNat_natCast]
  exact h
 ·cases h
theorem scan_PutNum.calls (a0 : Int) (r : ByteArray) (w : World) (h : scan_PutNum.f a0 = some r) :
    Calls Tryd.prog 101 #[.int .i64 a0] w fun e w' => e = .returned (.string r) ∧ Below w.heap.size w w' := by
 exact scan_PutNum_p.calls (w := w) (h := scan_PutNum.ev _ _ h)
theorem chunk_Put.size_ : (Tryd.prog.info? 26).map (·.size) = some 3 := by kernel_rfl
theorem chunk_Put.ck (w : World) : Calls Tryd.prog 80 #[.agg #[.int .i64 0, .slice none 0 0, .slice none 0 0]] w fun e w' => e = .returned (.int .i64 0) ∧ Below w.heap.size w w' :=
  chunk_Check.calls 0 none 0 [] none 0 [] 0 w (Kd.C_nil _ _) (Nat.le_refl _) (Kd.C_nil _ _) (Nat.le_refl _) (by unfold chunk_Check.f; rw [if_pos (by decide)]; decide +kernel)
theorem chunk_Put.pn (w : World) : Calls Tryd.prog 101 #[.int .i64 0] w fun e w' => e = .returned (.string ⟨#[0]⟩) ∧ Below w.heap.size w w' :=
  scan_PutNum.calls 0 ⟨#[0]⟩ w (by unfold scan_PutNum.f; rw [if_pos (by decide)]; decide +kernel)
set_option maxHeartbeats 8000000 in
set_option maxRecDepth 100000 in
theorem chunk_Put.none0 (w : World) : Calls Tryd.prog 86 #[.agg #[.int .i64 0, .slice none 0 0, .slice none 0 0]] w fun e w' => e = .returned (.tuple #[.string ⟨#[76, 0]⟩, .int .i64 0]) ∧ Below w.heap.size w w' := by
 have HC0 := Aside0.mk (M.rec_new w 26 [.int .i64 0, .slice none 0 0, .slice none 0 0])
 have HB0 := Aside0.mk (show Below w.heap.size w (w.alloc (.cells #[.int .i64 0, .slice none 0 0, .slice none 0 0] 26)) from below_alloc (Below.refl _ _) _)
 go_enter Tryd.func86, Tryd.ntmps86
 go_upto_if 17 with (first | ((with_reducible refine gate_dst (N := 8) rfl ?_); ((refine gate_guard (by rfl) ?_; dsimp only)); refine M.wp_rec_load rfl 26 _ rfl (w.heap.size) 26 [.int .i64 0, .slice none 0 0, .slice none 0 0] rfl HC0.out _ Tryd.underlying26 rfl chunk_Put.size_ ?_) | (go_at_call 80; (with_reducible refine (chunk_Put.ck _).mono ?_); rintro e w1 ⟨rfl, hb1⟩; have HB1 := Aside0.mk (below_step HB0.out hb1); have HC1 := Aside0.mk (M.rec_below HC0.out hb1); clear hb1) | ((with_reducible refine gate_dst (N := 13) rfl ?_); refine Kd.R_lit (Kd.int .u8) _ 5 ?hg (N := 13) ?hd (xs := ([76] : List Int)) (inner := [.int .u8 76]) (ok := fun _ => True) (okp := fun _ => True) ?hr ?hp (fun _ hk => hk) trivial (Below.refl _ _) (Nat.le_refl _) (by simp) ?_; (case hd => rfl); (case hg => rfl); (case hr => (go_simp; done)); (case hp => exact (Reps.one (show Kd.M (Kd.int .u8) _ _ _ 76 [.int .u8 76] from rfl) (Reps.none _ _))); intro v13 w8 ho9 hb hg_ hnew_; clear hg_ hnew_; have HC8 := Aside0.mk (M.rec_below HC1.out hb); have HB8 := Aside0.mk (below_step HB1.out hb); have hcv10 := own_string (P := Tryd.prog) Tryd.underlying101 Tryd.underlying5 Tryd.underlying9 (Kd.own_of_R ho9); have q0 := M.rec_cell HC8.out 0 _ rfl; have q1 := M.rec_cell HC8.out 1 _ rfl; clear hb ho9))
 go_wp2_with (go_at_call 101; (with_reducible refine (chunk_Put.pn _).mono ?_); rintro e w9 ⟨rfl, hb9⟩; have HB9 := Aside0.mk (below_step HB8.out hb9); have q9 := M.rec_cell (M.rec_below HC8.out hb9) 1 _ rfl; clear hb9)
 go_loopg [5, 33] (0) (fun kq v5 v33 wr => v5 = .string ⟨#[76, 0]⟩ ∧ v33 = .int .i64 0 ∧ w9 = wr)
 case atStart => exact ⟨congrArg Value.string (by decide +kernel), rfl, rfl⟩
 case round =>
  obtain ⟨rfl, rfl, rfl⟩ := hrel
  go_wp2
  go_ret2
  exact ⟨rfl, HB9.out⟩
theorem tree_Put.size_ : (Tryd.prog.info? 48).map (·.size) = some 3 := by kernel_rfl
theorem tree_Put.tw (nm : ByteArray) (w : World) : Calls Tryd.prog 39 #[.agg #[.int .i64 0, .slice none 0 0, .slice none 0 0], .string nm] w fun e w' => e = .returned (.agg #[.string ⟨#[]⟩, .string nm, .int .i64 0]) ∧ Below w.heap.size w w' :=
  chunk_Twig.calls 0 0 none 0 [] none 0 [] nm ⟨#[]⟩ nm 0 w (Kd.C_nil _ _) (Nat.le_refl _) (Kd.C_nil _ _) (Nat.le_refl _) (by
    unfold chunk_Twig.f chunk_Last.f chunk_Total.f
    rfl)
theorem tree_Put.sp (base g : Nat) (F : Nat → Prop) (s s1 : M.SS) (nm : ByteArray) (hp : s.put ⟨#[76, 0]⟩ = (nm, 0, s1)) (w : World) (hS : M.Sh Tryd.prog base w g F s) (hT : M.stab w) (hts : s.ts.length ≤ 1000000000) :
    Calls Tryd.prog 30 #[.pointer (some ⟨g, 0, none⟩), .string ⟨#[76, 0]⟩] w fun e w' => e = .returned (.tuple #[.string nm, .int .i64 0]) ∧ M.ShTo Tryd.prog base w g F s1 w' := by
 have h := shelf_Shelf_Put.any base g F s ⟨#[76, 0]⟩ w hS hT (by decide) hts
 rw [hp] at h
 exact h
set_option maxHeartbeats 8000000 in
set_option maxRecDepth 100000 in
theorem tree_Put.none0 (base g : Nat) (F : Nat → Prop) (s s1 : M.SS) (nm : ByteArray) (hp : s.put ⟨#[76, 0]⟩ = (nm, 0, s1)) (w : World) (hS : M.Sh Tryd.prog base w g F s) (hT : M.stab w) (hts : s.ts.length ≤ 1000000000) :
    Calls Tryd.prog 66 #[.pointer (some ⟨g, 0, none⟩), .agg #[.int .i64 0, .slice none 0 0, .slice none 0 0]] w fun e w' => e = .returned (.tuple #[.agg #[.string ⟨#[]⟩, .string nm, .int .i64 0], .int .i64 0]) ∧ M.ShTo Tryd.prog base w g F s1 w' := by
 obtain ⟨W0, hW0⟩ : ∃ W0, (w.alloc (.cells #[.int .i64 0, .slice none 0 0, .slice none 0 0] 26)).alloc (.cells #[.string ⟨#[]⟩, .string ⟨#[]⟩, .int .i64 0] 48) = W0 := ⟨_, rfl⟩
 have HC0 := Aside0.mk (show M.rec_ W0 w.heap.size 26 [.int .i64 0, .slice none 0 0, .slice none 0 0] from by rw [← hW0]; exact M.rec_alloc (M.rec_new w 26 [.int .i64 0, .slice none 0 0, .slice none 0 0]) _)
 have HD0 := Aside0.mk (show M.rec_ W0 (w.heap.size + 1) 48 [.string ⟨#[]⟩, .string ⟨#[]⟩, .int .i64 0] from by
  have h := M.rec_new (w.alloc (.cells #[.int .i64 0, .slice none 0 0, .slice none 0 0] 26)) 48 [.string ⟨#[]⟩, .string ⟨#[]⟩, .int .i64 0]
  rw [show (w.alloc (.cells #[.int .i64 0, .slice none 0 0, .slice none 0 0] 26)).heap.size = w.heap.size + 1 from by simp] at h
  rw [← hW0]
  exact h)
 have HB0 := Aside0.mk (show Below w.heap.size w W0 from by rw [← hW0]; exact below_alloc (below_alloc (Below.refl _ _) _) _)
 have HW0 := Aside0.mk hW0
 have HLT := Aside0.mk (M.Sh.lt hS)
 have HS0 := Aside0.mk (hS.below HB0.out)
 have HT0 := Aside0.mk (M.stab_below hT HB0.out (M.stab_lt hT))
 have HP := Aside0.mk hp
 have HBASE := Aside0.mk hS.base_le
 clear hW0 hS hT hp
 go_enter Tryd.func66, Tryd.ntmps66
 go_upto_region 1 with (fail)
 rw [HW0.out]
 go_wp2_with (first | ((with_reducible refine gate_dst (N := 10) rfl ?_); ((refine gate_guard (by rfl) ?_; dsimp only)); refine M.wp_rec_load rfl 26 _ rfl (w.heap.size) 26 [.int .i64 0, .slice none 0 0, .slice none 0 0] rfl HC0.out _ Tryd.underlying26 rfl chunk_Put.size_ ?_) | (go_at_call 86; (with_reducible refine (chunk_Put.none0 _).mono ?_); rintro e w1 ⟨rfl, hb1⟩; have HB1 := Aside0.mk (below_step HB0.out hb1); have HC1 := Aside0.mk (M.rec_below HC0.out hb1); have HD1 := Aside0.mk (M.rec_below HD0.out hb1); have HS1 := Aside0.mk (HS0.out.below hb1); have HT1 := Aside0.mk (M.stab_below HT0.out hb1 (M.stab_lt HT0.out)); clear hb1) | (go_at_call 30; (with_reducible refine (tree_Put.sp base g F s s1 nm HP.out _ HS1.out HT1.out hts).mono ?_); rintro e w2 ⟨rfl, F2, hs2, hf2, hk2, hb2⟩; have HC2 := Aside0.mk (M.rec_kept HC1.out hk2 (fun q => by have := HLT.out _ q; omega)); have HD2 := Aside0.mk (M.rec_kept HD1.out hk2 (fun q => by have := HLT.out _ q; omega)); have HS2 := Aside0.mk hs2; have HF2 := Aside0.mk hf2; have HK2 := Aside0.mk hk2; have HB2 := Aside0.mk hb2; clear hs2 hf2 hk2 hb2) | ((with_reducible refine gate_dst (N := 28) rfl ?_); ((refine gate_guard (by rfl) ?_; dsimp only)); refine M.wp_rec_load rfl 26 _ rfl (w.heap.size) 26 [.int .i64 0, .slice none 0 0, .slice none 0 0] rfl HC2.out _ Tryd.underlying26 rfl chunk_Put.size_ ?_) | (go_at_call 39; (with_reducible refine (tree_Put.tw nm _).mono ?_); rintro e w3 ⟨rfl, hb3⟩; have HD3 := Aside0.mk (M.rec_below HD2.out hb3); have HB3 := Aside0.mk hb3; clear hb3) | ((with_reducible refine gate_store (t := 48) (p := 4) (v := .tmp 30) rfl ?_); refine M.wp_rec_store rfl 48 _ _ rfl (w.heap.size + 1) 48 [.string ⟨#[]⟩, .string ⟨#[]⟩, .int .i64 0] [.string ⟨#[]⟩, .string nm, .int .i64 0] rfl rfl HD3.out rfl tree_Put.size_ rfl ?_; intro w4 hA4 hF4 hB4 hz4; have HA4 := Aside0.mk hA4; have HF4 := Aside0.mk hF4; have HZ4 := Aside0.mk hz4; have HY4 := Aside0.mk hB4; clear hA4 hF4 hB4 hz4))
 have hlt1 : w.heap.size + 1 < w1.heap.size := M.rec_lt HD1.out
 have hz2 := HK2.out.1
 refine bodyPost_ret (results_ct rfl _ _ (w.heap.size + 1) 48 #[.string ⟨#[]⟩, .string nm, .int .i64 0] (0, 0) _ rfl HA4.out Tryd.underlying48 rfl tree_Put.size_) rfl ⟨rfl, F2, (HS2.out.below HB3.out).kept (S := fun k => k = w.heap.size + 1) ⟨Nat.le_of_eq HZ4.out.symm, fun i _ hn => HF4.out i hn⟩ (fun k q e => by rcases HF2.out k q with h | h; have := HLT.out k h; omega; omega), fun k hk => (HF2.out k hk).imp id (fun q => by omega), ⟨by have := HB3.out.size; have := HZ4.out; omega, fun i hi hn => ?_⟩, HY4.out base w (by have := HBASE.out; omega) (((HB1.out.mono HBASE.out).trans HB2.out).trans (HB3.out.mono (by have := HBASE.out; omega)))⟩
 exact (HF4.out i (by omega)).trans (((HB3.out.block i (by omega)).trans (HK2.out.2 i (by omega) hn)).trans (HB1.out.block i hi))
set_option maxHeartbeats 8000000 in
set_option maxRecDepth 100000 in
theorem cut_New.any (l : Int) (w : World) : Calls Tryd.prog 98 #[.int .i64 l] w fun e w' => e = .returned (.pointer (some ⟨w.heap.size, 0, none⟩)) ∧ w' = w.alloc (.cells #[.int .i64 l, .int .i64 0, .bool true] 160) := by
 go_enter Tryd.func98, Tryd.ntmps98
 go_wp2
 go_ret
 exact ⟨rfl, rfl⟩
set_option maxHeartbeats 8000000 in
set_option maxRecDepth 100000 in
theorem cut_Size.any (b : Nat) (n : Int) (w : World) (h : w.cell? ⟨b, 1, none⟩ = some (.int .i64 n)) : Calls Tryd.prog 100 #[.pointer (some ⟨b, 0, none⟩)] w fun e w' => e = .returned (.int .i64 n) ∧ w = w' := by
 go_enter Tryd.func100, Tryd.ntmps100
 go_wp2
 go_ret
 exact ⟨rfl, rfl⟩
set_option maxHeartbeats 8000000 in
set_option maxRecDepth 100000 in
theorem cut_Ends.none0 (l : Int) (A0 : Option Addr) (c0 : Nat) (w : World) : Calls Tryd.prog 84 #[.int .i64 l, .slice A0 0 c0] w fun e w' => e = .returned (.slice none 0 0) ∧ Below w.heap.size w w' := by
 go_enter Tryd.func84, Tryd.ntmps84
 go_wp2_with (go_at_call 98; (with_reducible refine (cut_New.any l _).mono ?_); rintro e w1 ⟨rfl, hw1⟩; have HW1 := Aside0.mk hw1; clear hw1)
 have HB := Aside0.mk (show Below w.heap.size w w1 from by rw [HW1.out]; exact below_alloc (Below.refl _ _) _)
 have hc : w1.cell? ⟨w.heap.size, 1, none⟩ = some (.int .i64 0) := by rw [HW1.out]; exact M.rec_cell (M.rec_new w 160 [.int .i64 l, .int .i64 0, .bool true]) 1 _ rfl
 go_loopg [6, 13] (0) (fun kq v6 v7 wr => v6 = .slice none 0 0 ∧ v7 = .int .i64 0 ∧ w1 = wr)
 case atStart => exact ⟨rfl, rfl, rfl⟩
 case round =>
  obtain ⟨rfl, rfl, rfl⟩ := hrel
  go_wp2_with (go_at_call 100; (with_reducible refine (cut_Size.any w.heap.size 0 _ hc).mono ?_); rintro e w2 ⟨rfl, rfl⟩)
  go_ret
  exact ⟨rfl, HB.out⟩
set_option maxHeartbeats 8000000 in
set_option maxRecDepth 100000 in
theorem tree_keysE.none0 (f : Value) (w : World) : Calls Tryd.prog 85 #[.slice none 0 0, f] w fun e w' => ∃ A c, e = .returned (.slice A 0 c) ∧ Below w.heap.size w w' := by
 have hmk : ∀ W : World, (Instr.makeSlice 22 (.int .i64 0) (.int .i64 0)).run Tryd.prog W = .ok (.slice (some ⟨W.heap.size, 0, none⟩) 0 0) (W.alloc (.cells #[] 9)) := fun W => by kernel_rfl
 go_enter Tryd.func85, Tryd.ntmps85
 go_wp2
 go_loopg [5, 13] (0) (fun kq v5 v7 wr => v5 = .slice (some ⟨w.heap.size, 0, none⟩) 0 0 ∧ v7 = .int .i64 0 ∧ Aside0 (Below w.heap.size w wr))
 case atStart => exact ⟨rfl, rfl, ⟨by (exact below_alloc (Below.refl _ _) _)⟩⟩
 case round =>
  obtain ⟨rfl, rfl, HB⟩ := hrel
  go_wp2
  go_ret
  exact ⟨_, _, rfl, HB.out⟩
set_option maxHeartbeats 8000000 in
set_option maxRecDepth 100000 in
theorem tree_piecesE.none0 (p : Value) (l : Int) (f1 f2 : Value) (w : World) : Calls Tryd.prog 65 #[p, .int .i64 l, .slice none 0 0, f1, f2] w fun e w' => e = .returned (.tuple #[.slice none 0 0, .int .i64 0]) ∧ Below w.heap.size w w' := by
 go_enter Tryd.func65, Tryd.ntmps65
 go_wp2_with (first | (go_at_call 85; (with_reducible refine (tree_keysE.none0 f1 _).mono ?_); rintro e w1 ⟨A, c, rfl, hb1⟩; have HB1 := Aside0.mk hb1; clear hb1) | (go_at_call 84; (with_reducible refine (cut_Ends.none0 l A c _).mono ?_); rintro e w2 ⟨rfl, hb2⟩; have HB2 := Aside0.mk (below_step HB1.out hb2); clear hb2))
 go_loopg [12, 24] (0) (fun kq v12 v24 wr => v12 = .slice none 0 0 ∧ v24 = .int .i64 0 ∧ w2 = wr)
 case atStart => exact ⟨rfl, rfl, rfl⟩
 case round =>
  obtain ⟨rfl, rfl, rfl⟩ := hrel
  go_wp2
  go_ret2
  exact ⟨rfl, HB2.out⟩
set_option maxHeartbeats 8000000 in
set_option maxRecDepth 100000 in
theorem tree_Leaves.none0 (p : Value) (w : World) : Calls Tryd.prog 42 #[p, .slice none 0 0] w fun e w' => e = .returned (.tuple #[.slice none 0 0, .int .i64 0]) ∧ Below w.heap.size w w' := by
 go_enter Tryd.func42, Tryd.ntmps42
 go_wp2_with (first | (go_at_call 61; (with_reducible refine (tree_Check.none0 _).mono ?_); rintro e w1 ⟨rfl, rfl⟩) | (go_at_call 65; (with_reducible refine (tree_piecesE.none0 p 0 _ _ _).mono ?_); rintro e w2 ⟨rfl, hb2⟩; have HB2 := Aside0.mk hb2; clear hb2))
 go_ret2
 exact ⟨rfl, HB2.out⟩
set_option maxHeartbeats 8000000 in
set_option maxRecDepth 100000 in
theorem tree_Raise.none0 (base g : Nat) (F : Nat → Prop) (s s1 : M.SS) (nm : ByteArray) (hp : s.put ⟨#[76, 0]⟩ = (nm, 0, s1)) (w : World) (hS : M.Sh Tryd.prog base w g F s) (hT : M.stab w) (hts : s.ts.length ≤ 1000000000) :
    Calls Tryd.prog 43 #[.pointer (some ⟨g, 0, none⟩), .slice none 0 0] w fun e w' => e = .returned (.tuple #[.string nm, .int .i64 0]) ∧ M.ShTo Tryd.prog base w g F s1 w' := by
 have HS := Aside0.mk hS
 have HT := Aside0.mk hT
 have HP := Aside0.mk hp
 clear hS hT hp
 go_enter Tryd.func43, Tryd.ntmps43
 go_wp2_with (first | (go_at_call 66; (with_reducible refine (tree_Put.none0 base g F s s1 nm HP.out _ HS.out HT.out hts).mono ?_); rintro e w1 ⟨rfl, F1, hs1, hf1, hk1, hb1⟩; have HS1 := Aside0.mk hs1; have HF1 := Aside0.mk hf1; have HK1 := Aside0.mk hk1; have HB1 := Aside0.mk hb1; clear hs1 hf1 hk1 hb1) | ((with_reducible refine gate_store (t := 48) (p := 6) (v := .tmp 19) rfl ?_); refine M.wp_rec_store rfl 48 _ _ rfl w1.heap.size 48 [.string ⟨#[]⟩, .string ⟨#[]⟩, .int .i64 0] [.string ⟨#[]⟩, .string nm, .int .i64 0] rfl rfl (M.rec_new w1 48 [.string ⟨#[]⟩, .string ⟨#[]⟩, .int .i64 0]) rfl tree_Put.size_ rfl ?_; intro w4 hA4 hF4 hB4 hz4; have HA4 := Aside0.mk hA4; have HY4 := Aside0.mk (hB4 w1.heap.size w1 (Nat.le_refl _) (below_alloc (Below.refl _ _) _)); have q1 := M.rec_cell hA4 1 _ rfl; clear hA4 hF4 hB4 hz4))
 go_ret2
 have hsz := HY4.out.size
 have hbase := HS1.out.base_le
 refine ⟨rfl, F1, HS1.out.below HY4.out, HF1.out, ⟨by have := HK1.out.1; omega, fun i hi hn => (HY4.out.block i (by have := HK1.out.1; omega)).trans (HK1.out.2 i hi hn)⟩, HB1.out.trans (HY4.out.mono hbase)⟩
set_option maxHeartbeats 8000000 in
set_option maxRecDepth 100000 in
theorem tree_Build.none0 (base g : Nat) (F : Nat → Prop) (s s1 : M.SS) (nm : ByteArray) (hp : s.put ⟨#[76, 0]⟩ = (nm, 0, s1)) (w : World) (hS : M.Sh Tryd.prog base w g F s) (hT : M.stab w) (hts : s.ts.length ≤ 1000000000) :
    Calls Tryd.prog 21 #[.pointer (some ⟨g, 0, none⟩), .slice none 0 0] w fun e w' => e = .returned (.tuple #[.string nm, .int .i64 0]) ∧ M.ShTo Tryd.prog base w g F s1 w' := by
 have HS := Aside0.mk hS
 have HT := Aside0.mk hT
 have HP := Aside0.mk hp
 clear hS hT hp
 go_enter Tryd.func21, Tryd.ntmps21
 go_wp2_with (first | (go_at_call 42; (with_reducible refine (tree_Leaves.none0 _ _).mono ?_); rintro e w1 ⟨rfl, hb1⟩; have HB1 := Aside0.mk hb1; have HS1 := Aside0.mk (HS.out.below hb1); have HT1 := Aside0.mk (M.stab_below HT.out hb1 (M.stab_lt HT.out)); clear hb1) | (go_at_call 43; (with_reducible refine (tree_Raise.none0 base g F s s1 nm HP.out _ HS1.out HT1.out hts).mono ?_); rintro e w2 ⟨rfl, F1, hs1, hf1, hk1, hb1⟩; have HS2 := Aside0.mk hs1; have HF1 := Aside0.mk hf1; have HK1 := Aside0.mk hk1; have HB2 := Aside0.mk hb1; clear hs1 hf1 hk1 hb1))
 go_ret2
 have hsz := HB1.out.size
 have hbase := HS.out.base_le
 refine ⟨rfl, F1, HS2.out, fun k hk => (HF1.out k hk).imp id (fun q => by omega), ⟨by have := HK1.out.1; omega, fun i hi hn => (HK1.out.2 i (by omega) hn).trans (HB1.out.block i hi)⟩, (HB1.out.mono hbase).trans HB2.out⟩
end Go.Proofs.YtopllfdjlbnmfaaDoor.ETreeChildren
