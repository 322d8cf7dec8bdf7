-- Laid by this session's own program (wip/tools/fold.py): this session's texts, cut to what the claim names and put together; Lean checks it.
import Derived.Test.YtopllfdjlbnmfaaDoorVTreeChildren1
import Derived.Test.YtopllfdjlbnmfaaDoorXTreeChildren1
namespace Go.Proofs.YtopllfdjlbnmfaaDoor.ETreeChildren
open Go.RowKit Go.Proofs.YtopllfdjlbnmfaaDoorW.PrintWords Go.Proofs.YtopllfdjlbnmfaaDoorW.PrintLast Go.Proofs.YtopllfdjlbnmfaaDoorW.PrintMore
attribute [local go_sem] M.run_leq M.run_gtr M.run_geq max2_int min2_int max_two min_two max_three min_three max_four min_four
set_option linter.unusedVariables false
set_option linter.unusedSimpArgs false
mutual
def pleachref19_Wrong.j0 : Nat → Bool → Int → List (S78) → List Int → Option (Int)
  | 0, _, _, _, _ => none
  | k + 1, x20, zaa, zab, zac => if x20 = true then (some 2) else (if zaa = 0 then (if (zac.length : Int) > 0 then (pleachref19_Wrong.j1 k true zaa zab zac) else (if zaa > 0 then (if (zab.length : Int) = 0 then (pleachref19_Wrong.j1 k true zaa zab zac) else (pleachref19_Wrong.j1 k ((zac.length : Int) != (zab.length : Int)) zaa zab zac)) else (pleachref19_Wrong.j1 k false zaa zab zac))) else (if zaa > 0 then (if (zab.length : Int) = 0 then (pleachref19_Wrong.j1 k true zaa zab zac) else (pleachref19_Wrong.j1 k ((zac.length : Int) != (zab.length : Int)) zaa zab zac)) else (pleachref19_Wrong.j1 k false zaa zab zac)))
def pleachref19_Wrong.j1 : Nat → Bool → Int → List (S78) → List Int → Option (Int)
  | 0, _, _, _, _ => none
  | k + 1, x49, zaa, zab, zac => if x49 = true then (some 2) else (pleachref19_Wrong.l0 k 0 zaa zab zac)
def pleachref19_Wrong.l0 : Nat → Int → Int → List (S78) → List Int → Option (Int)
  | 0, _, _, _, _ => none
  | k + 1, x3, zaa, zab, zac => if x3 < (zac.length : Int) then (if 0 ≤ x3 then (if (rd zac x3) < 1 then (some 2) else (if (rd zac x3) > 2147483648 then (some 2) else (pleachref19_Wrong.l0 k (wrap64 (x3 + 1)) zaa zab zac))) else (none)) else (pleachref19_Wrong.l1 k 0 zaa zab zac)
def pleachref19_Wrong.l1 : Nat → Int → Int → List (S78) → List Int → Option (Int)
  | 0, _, _, _, _ => none
  | k + 1, x4, zaa, zab, zac => if x4 < (zab.length : Int) then (if 0 ≤ x4 then (if (((rd_T78 zab x4).f0).size : Int) < 1 then (pleachref19_Wrong.j4 k x4 true zaa zab zac) else (if (((rd_T78 zab x4).f0).size : Int) > 64 then (pleachref19_Wrong.j4 k x4 true zaa zab zac) else (if zaa = 0 then (if (((rd_T78 zab x4).f1).size : Int) > 2048 then (pleachref19_Wrong.j4 k x4 true zaa zab zac) else (if zaa > 0 then (pleachref19_Wrong.j4 k x4 ((((rd_T78 zab x4).f1).size : Int) != 32) zaa zab zac) else (pleachref19_Wrong.j4 k x4 false zaa zab zac))) else (if zaa > 0 then (pleachref19_Wrong.j4 k x4 ((((rd_T78 zab x4).f1).size : Int) != 32) zaa zab zac) else (pleachref19_Wrong.j4 k x4 false zaa zab zac))))) else (none)) else (some 0)
def pleachref19_Wrong.j4 : Nat → Int → Bool → Int → List (S78) → List Int → Option (Int)
  | 0, _, _, _, _, _ => none
  | k + 1, x4, x115, zaa, zab, zac => if x115 = true then (some 2) else (if x4 > 0 then (if 0 ≤ x4 then (if x4 < (zab.length : Int) then (if 0 ≤ (wrap64 (x4 - 1)) then (if (wrap64 (x4 - 1)) < (zab.length : Int) then (if ((Op.bytesLess (((rd_T78 zab (wrap64 (x4 - 1))).f0).toList) (((rd_T78 zab x4).f0).toList)) = true) then (pleachref19_Wrong.l1 k (wrap64 (x4 + 1)) zaa zab zac) else (some 4)) else (none)) else (none)) else (none)) else (none)) else (pleachref19_Wrong.l1 k (wrap64 (x4 + 1)) zaa zab zac))
end
def pleachref19_Wrong.f (k : Nat) (a0_0 : Int) (l0_1 : List (S78)) (l0_2 : List Int) : Option (Int) := if a0_0 < 0 then (pleachref19_Wrong.j0 k true a0_0 l0_1 l0_2) else (if a0_0 > 40 then (pleachref19_Wrong.j0 k true a0_0 l0_1 l0_2) else (pleachref19_Wrong.j0 k (decide ((l0_1.length : Int) > 8)) a0_0 l0_1 l0_2))
theorem pleachref19_Wrong.mono_l : ∀ k, (∀ y0 y1 y2 y3, LeO (pleachref19_Wrong.j0 k y0 y1 y2 y3) (pleachref19_Wrong.j0 (k + 1) y0 y1 y2 y3)) ∧ (∀ y0 y1 y2 y3, LeO (pleachref19_Wrong.j1 k y0 y1 y2 y3) (pleachref19_Wrong.j1 (k + 1) y0 y1 y2 y3)) ∧ (∀ y0 y1 y2 y3, LeO (pleachref19_Wrong.l0 k y0 y1 y2 y3) (pleachref19_Wrong.l0 (k + 1) y0 y1 y2 y3)) ∧ (∀ y0 y1 y2 y3, LeO (pleachref19_Wrong.l1 k y0 y1 y2 y3) (pleachref19_Wrong.l1 (k + 1) y0 y1 y2 y3)) ∧ (∀ y0 y1 y2 y3 y4, LeO (pleachref19_Wrong.j4 k y0 y1 y2 y3 y4) (pleachref19_Wrong.j4 (k + 1) y0 y1 y2 y3 y4))
  | 0 => ⟨fun _ _ _ _ r h => by simp [pleachref19_Wrong.j0] at h, fun _ _ _ _ r h => by simp [pleachref19_Wrong.j1] at h, fun _ _ _ _ r h => by simp [pleachref19_Wrong.l0] at h, fun _ _ _ _ r h => by simp [pleachref19_Wrong.l1] at h, fun _ _ _ _ _ r h => by simp [pleachref19_Wrong.j4] at h⟩
  | k + 1 => by
    obtain ⟨ih0, ih1, ih2, ih3, ih4⟩ := pleachref19_Wrong.mono_l k
    refine ⟨?_, ?_, ?_, ?_, ?_⟩
    · intro y0 y1 y2 y3
      unfold pleachref19_Wrong.j0
      repeat' first
      | (with_reducible exact ih1 _ _ _ _)
      | (with_reducible exact LeO.refl _)
      | (with_reducible refine LeO.ite ?_ ?_)
    · intro y0 y1 y2 y3
      unfold pleachref19_Wrong.j1
      repeat' first
      | (with_reducible exact ih2 _ _ _ _)
      | (with_reducible exact LeO.refl _)
      | (with_reducible refine LeO.ite ?_ ?_)
    · intro y0 y1 y2 y3
      unfold pleachref19_Wrong.l0
      repeat' first
      | (with_reducible exact ih2 _ _ _ _)
      | (with_reducible exact ih3 _ _ _ _)
      | (with_reducible exact LeO.refl _)
      | (with_reducible refine LeO.ite ?_ ?_)
    · intro y0 y1 y2 y3
      unfold pleachref19_Wrong.l1
      repeat' first
      | (with_reducible exact ih4 _ _ _ _ _)
      | (with_reducible exact LeO.refl _)
      | (with_reducible refine LeO.ite ?_ ?_)
    · intro y0 y1 y2 y3 y4
      unfold pleachref19_Wrong.j4
      repeat' first
      | (with_reducible exact ih3 _ _ _ _)
      | (with_reducible exact LeO.refl _)
      | (with_reducible refine LeO.ite ?_ ?_)
theorem pleachref19_Wrong.mono : ∀ a0 a1 a2 k, LeO (pleachref19_Wrong.f k a0 a1 a2) (pleachref19_Wrong.f (k + 1) a0 a1 a2) := by
  intro a0 a1 a2 k
  obtain ⟨ih0, ih1, ih2, ih3, ih4⟩ := pleachref19_Wrong.mono_l k
  unfold pleachref19_Wrong.f
  repeat' first
      | (with_reducible exact ih0 _ _ _ _)
      | (with_reducible refine LeO.ite ?_ ?_)
set_option maxHeartbeats 8000000 in
set_option maxRecDepth 100000 in
theorem pleachref19_Wrong.calls (k : Nat) (a0_0 : Int) (A0_1 : Option Addr) (c0_1 : Nat) (l0_1 : List (S78)) (A0_2 : Option Addr) (c0_2 : Nat) (l0_2 : List Int) (r : Int) (w : World) (hr0_1 : Kd.C k78 w A0_1 l0_1.length l0_1) (hc0_1 : l0_1.length ≤ c0_1) (hr0_2 : Kd.C (Kd.int .i64) w A0_2 l0_2.length l0_2) (hc0_2 : l0_2.length ≤ c0_2) (h : pleachref19_Wrong.f k a0_0 l0_1 l0_2 = some r) :
    Calls Tryd.prog 58 #[.agg #[.int .i64 a0_0, .slice A0_1 l0_1.length c0_1, .slice A0_2 l0_2.length c0_2]] w fun e w' => e = .returned (.int .i64 r) ∧ Below w.heap.size w w' := by
 have hu26 := Tryd.underlying26
 have HR0_1 := Aside0.mk hr0_1
 have HC0_1 := Aside0.mk hc0_1
 clear hr0_1 hc0_1
 have HR0_2 := Aside0.mk hr0_2
 have HC0_2 := Aside0.mk hc0_2
 clear hr0_2 hc0_2
 have HB := Aside0.mk (Below.refl w.heap.size w)
 have H := h; unfold pleachref19_Wrong.f at H
 clear h
 have HC2 := Aside0.mk H
 clear H
 go_enter Tryd.func58, Tryd.ntmps58
 go_upto_region 1 with (((with_reducible refine gate_dst (N := 1) rfl ?_); ((refine gate_guard (by rfl) ?_; dsimp only)); refine M.bx 1 26 (#[.int .i64 a0_0, .slice A0_1 l0_1.length c0_1, .slice A0_2 l0_2.length c0_2]) ?_; intro zad hg w3 hbox hb; have zae := Aside0.mk (hbox); have zaf := M.upG HB hg; have zag := M.upG HB hg; replace HB := M.upS HB hb; clear hb hbox hg))
 repeat (go_quiet (((with_reducible refine gate_dst (N := 1) rfl ?_); (try (refine gate_guard (by rfl) ?_; dsimp only)); refine M.bx 1 26 (#[.int .i64 a0_0, .slice A0_1 l0_1.length c0_1, .slice A0_2 l0_2.length c0_2]) ?_; intro zad hg w3 hbox hb; have zae := Aside0.mk (hbox); have zaf := M.upG HB hg; have zag := M.upG HB hg; replace HB := M.upS HB hb; clear hb hbox hg)); go_upto_region 1 with (((with_reducible refine gate_dst (N := 1) rfl ?_); (try (refine gate_guard (by rfl) ?_; dsimp only)); refine M.bx 1 26 (#[.int .i64 a0_0, .slice A0_1 l0_1.length c0_1, .slice A0_2 l0_2.length c0_2]) ?_; intro zad hg w3 hbox hb; have zae := Aside0.mk (hbox); have zaf := M.upG HB hg; have zag := M.upG HB hg; replace HB := M.upS HB hb; clear hb hbox hg)))
 go_cut [20] (fun v20 wc => ∃ (kq : Nat) (x20_1 : Bool), v20 = .bool x20_1 ∧ Aside0 (pleachref19_Wrong.j0 kq x20_1 a0_0 l0_1 l0_2 = some r) ∧ Aside0 (kq ≤ k) ∧ Aside0 (wc.heap[zad]? = some (.cells #[.int .i64 a0_0, (.slice A0_1 l0_1.length c0_1), (.slice A0_2 l0_2.length c0_2)] 26 (0, 0))) ∧ Aside0 (Below w.heap.size w wc))
 case first =>
  have H := HC2.out
  clear HC2
  by_cases c4 : a0_0 < 0
  ·rw [if_pos c4] at H
   have c4b0 := decide_eq_true c4
   clear c4
   ((skip))
   have H' := Aside0.mk H
   clear H
   obtain ⟨zah, zai, zaj⟩ := M.bc3 (w := w3) (a := .int .i64 a0_0) (b := .slice A0_1 l0_1.length c0_1) (c := .slice A0_2 l0_2.length c0_2) zae.out
   obtain ⟨zak, zal, zam⟩ := M.bf3 zae
   go_wp2
   repeat (go_quiet (fail); try go_wp2)
   go_meet
   case rel => exact ⟨_, (true), M.eqv, H', ⟨by (omega)⟩, ⟨M.bk zae⟩, ⟨M.up HB⟩⟩
  ·rw [if_neg c4] at H
   have c4b0 := decide_eq_false c4
   clear c4
   ((skip))
   by_cases c6 : a0_0 > 40
   ·rw [if_pos c6] at H
    have c6b0 := decide_eq_true c6
    clear c6
    have H' := Aside0.mk H
    clear H
    obtain ⟨zan, zao, zap⟩ := M.bc3 (w := w3) (a := .int .i64 a0_0) (b := .slice A0_1 l0_1.length c0_1) (c := .slice A0_2 l0_2.length c0_2) zae.out
    obtain ⟨zaq, zar, zas⟩ := M.bf3 zae
    go_wp2
    repeat (go_quiet (fail); try go_wp2)
    go_meet
    case rel => exact ⟨_, (true), M.eqv, H', ⟨by (omega)⟩, ⟨M.bk zae⟩, ⟨M.up HB⟩⟩
   ·rw [if_neg c6] at H
    have c6b0 := decide_eq_false c6
    clear c6
    have H' := Aside0.mk H
    clear H
    obtain ⟨zat, zau, zav⟩ := M.bc3 (w := w3) (a := .int .i64 a0_0) (b := .slice A0_1 l0_1.length c0_1) (c := .slice A0_2 l0_2.length c0_2) zae.out
    obtain ⟨zaw, zax, zay⟩ := M.bf3 zae
    go_wp2
    repeat (go_quiet (fail); try go_wp2)
    go_meet
    case rel => exact ⟨_, (decide ((l0_1.length : Int) > 8)), M.eqv, H', ⟨by (omega)⟩, ⟨M.bk zae⟩, ⟨M.up HB⟩⟩
 case rest =>
  clear HC2
  obtain ⟨kq, x20_1, rfl, HA, HJ1, zae, HB⟩ := hcut
  cases kq with
  | zero => exact absurd HA.out (by simp [pleachref19_Wrong.j0])
  | succ kj1 =>
   have H := HA.out
   clear HA
   simp only [pleachref19_Wrong.j0] at H
   by_cases c9 : x20_1 = true
   ·subst c9
    have H1 := H; rw [if_pos rfl] at H1
    clear H
    have H := H1
    clear H1
    obtain rfl := Option.some.inj H
    go_wp2
    repeat (go_quiet (fail); try go_wp2)
    go_ret
    exact M.fin (M.up HB)
   ·replace c9 := Bool.eq_false_iff.mpr c9
    subst c9
    have H1 : (if a0_0 = 0 then (if (l0_2.length : Int) > 0 then (pleachref19_Wrong.j1 kj1 true a0_0 l0_1 l0_2) else (if a0_0 > 0 then (if (l0_1.length : Int) = 0 then (pleachref19_Wrong.j1 kj1 true a0_0 l0_1 l0_2) else (pleachref19_Wrong.j1 kj1 ((l0_2.length : Int) != (l0_1.length : Int)) a0_0 l0_1 l0_2)) else (pleachref19_Wrong.j1 kj1 false a0_0 l0_1 l0_2))) else (if a0_0 > 0 then (if (l0_1.length : Int) = 0 then (pleachref19_Wrong.j1 kj1 true a0_0 l0_1 l0_2) else (pleachref19_Wrong.j1 kj1 ((l0_2.length : Int) != (l0_1.length : Int)) a0_0 l0_1 l0_2)) else (pleachref19_Wrong.j1 kj1 false a0_0 l0_1 l0_2))) = some r := by rw [if_neg (show ¬ (false = true) by decide)] at H; exact H
    clear H
    have H := H1
    clear H1
    have HC10 := Aside0.mk H
    clear H
    go_upto_region 3 with (fail)
    repeat (go_quiet (fail); go_upto_region 3 with (fail))
    go_cut [49] (fun v49 wc => ∃ (kq : Nat) (x49_9 : Bool), v49 = .bool x49_9 ∧ Aside0 (pleachref19_Wrong.j1 kq x49_9 a0_0 l0_1 l0_2 = some r) ∧ Aside0 (kq ≤ kj1) ∧ Aside0 (wc.heap[zad]? = some (.cells #[.int .i64 a0_0, (.slice A0_1 l0_1.length c0_1), (.slice A0_2 l0_2.length c0_2)] 26 (0, 0))) ∧ Aside0 (Below w.heap.size w wc))
    case first =>
     have H := HC10.out
     clear HC10
     by_cases c11 : a0_0 = 0
     ·rw [if_pos c11] at H
      have c11b0 : (a0_0 == 0) = true := beq_iff_eq.mpr c11
      have c11b1 : (a0_0 != 0) = false := bne_eq_false_iff_eq.mpr c11
      clear c11
      ((skip))
      by_cases c12 : (l0_2.length : Int) > 0
      ·rw [if_pos c12] at H
       have c12b0 := decide_eq_true c12
       have c12b1 : decide (0 < l0_2.length) = true := decide_eq_true (by omega)
       clear c12
       have H' := Aside0.mk H
       clear H
       obtain ⟨zaz, zaA, zaB⟩ := M.bc3 (w := wc) (a := .int .i64 a0_0) (b := .slice A0_1 l0_1.length c0_1) (c := .slice A0_2 l0_2.length c0_2) zae.out
       obtain ⟨zaC, zaD, zaE⟩ := M.bf3 zae
       go_wp2
       repeat (go_quiet (fail); try go_wp2)
       go_meet
       case rel => exact ⟨_, (true), M.eqv, H', ⟨by have := HJ1.out; (omega)⟩, ⟨M.bk zae⟩, ⟨M.up HB⟩⟩
      ·rw [if_neg c12] at H
       have c12b0 := decide_eq_false c12
       have c12b1 : decide (0 < l0_2.length) = false := decide_eq_false (by omega)
       clear c12
       by_cases c14 : a0_0 > 0
       ·rw [if_pos c14] at H
        have c14b0 := decide_eq_true c14
        clear c14
        by_cases c15 : (l0_1.length : Int) = 0
        ·rw [if_pos c15] at H
         have c15b0 : ((l0_1.length : Int) == 0) = true := beq_iff_eq.mpr c15
         have c15b1 : ((l0_1.length : Int) != 0) = false := bne_eq_false_iff_eq.mpr c15
         clear c15
         have H' := Aside0.mk H
         clear H
         obtain ⟨zaF, zaG, zaH⟩ := M.bc3 (w := wc) (a := .int .i64 a0_0) (b := .slice A0_1 l0_1.length c0_1) (c := .slice A0_2 l0_2.length c0_2) zae.out
         obtain ⟨zaI, zaJ, zaK⟩ := M.bf3 zae
         go_wp2
         repeat (go_quiet (fail); try go_wp2)
         go_meet
         case rel => exact ⟨_, (true), M.eqv, H', ⟨by have := HJ1.out; (omega)⟩, ⟨M.bk zae⟩, ⟨M.up HB⟩⟩
        ·rw [if_neg c15] at H
         have c15b0 : ((l0_1.length : Int) == 0) = false := beq_eq_false_iff_ne.mpr c15
         have c15b1 : ((l0_1.length : Int) != 0) = true := bne_iff_ne.mpr c15
         have c15b2 : ¬ (l0_1 = []) := fun h_ => c15 (by rw [h_]; rfl)
         have H' := Aside0.mk H
         clear H
         obtain ⟨zaL, zaM, zaN⟩ := M.bc3 (w := wc) (a := .int .i64 a0_0) (b := .slice A0_1 l0_1.length c0_1) (c := .slice A0_2 l0_2.length c0_2) zae.out
         obtain ⟨zaO, zaP, zaQ⟩ := M.bf3 zae
         go_wp2
         repeat (go_quiet (fail); try go_wp2)
         go_meet
         case rel => exact ⟨_, (((l0_2.length : Int) != (l0_1.length : Int))), M.eqv, H', ⟨by have := HJ1.out; (omega)⟩, ⟨M.bk zae⟩, ⟨M.up HB⟩⟩
       ·rw [if_neg c14] at H
        have c14b0 := decide_eq_false c14
        clear c14
        have H' := Aside0.mk H
        clear H
        obtain ⟨zaR, zaS, zaT⟩ := M.bc3 (w := wc) (a := .int .i64 a0_0) (b := .slice A0_1 l0_1.length c0_1) (c := .slice A0_2 l0_2.length c0_2) zae.out
        obtain ⟨zaU, zaV, zaW⟩ := M.bf3 zae
        go_wp2
        repeat (go_quiet (fail); try go_wp2)
        go_meet
        case rel => exact ⟨_, (false), M.eqv, H', ⟨by have := HJ1.out; (omega)⟩, ⟨M.bk zae⟩, ⟨M.up HB⟩⟩
     ·rw [if_neg c11] at H
      have c11b0 : (a0_0 == 0) = false := beq_eq_false_iff_ne.mpr c11
      have c11b1 : (a0_0 != 0) = true := bne_iff_ne.mpr c11
      ((skip))
      by_cases c19 : a0_0 > 0
      ·rw [if_pos c19] at H
       have c19b0 := decide_eq_true c19
       clear c19
       by_cases c20 : (l0_1.length : Int) = 0
       ·rw [if_pos c20] at H
        have c20b0 : ((l0_1.length : Int) == 0) = true := beq_iff_eq.mpr c20
        have c20b1 : ((l0_1.length : Int) != 0) = false := bne_eq_false_iff_eq.mpr c20
        clear c20
        have H' := Aside0.mk H
        clear H
        obtain ⟨zaX, zaY, zaZ⟩ := M.bc3 (w := wc) (a := .int .i64 a0_0) (b := .slice A0_1 l0_1.length c0_1) (c := .slice A0_2 l0_2.length c0_2) zae.out
        obtain ⟨za0, za1, za2⟩ := M.bf3 zae
        go_wp2
        repeat (go_quiet (fail); try go_wp2)
        go_meet
        case rel => exact ⟨_, (true), M.eqv, H', ⟨by have := HJ1.out; (omega)⟩, ⟨M.bk zae⟩, ⟨M.up HB⟩⟩
       ·rw [if_neg c20] at H
        have c20b0 : ((l0_1.length : Int) == 0) = false := beq_eq_false_iff_ne.mpr c20
        have c20b1 : ((l0_1.length : Int) != 0) = true := bne_iff_ne.mpr c20
        have c20b2 : ¬ (l0_1 = []) := fun h_ => c20 (by rw [h_]; rfl)
        have H' := Aside0.mk H
        clear H
        obtain ⟨za3, za4, za5⟩ := M.bc3 (w := wc) (a := .int .i64 a0_0) (b := .slice A0_1 l0_1.length c0_1) (c := .slice A0_2 l0_2.length c0_2) zae.out
        obtain ⟨za6, za7, za8⟩ := M.bf3 zae
        go_wp2
        repeat (go_quiet (fail); try go_wp2)
        go_meet
        case rel => exact ⟨_, (((l0_2.length : Int) != (l0_1.length : Int))), M.eqv, H', ⟨by have := HJ1.out; (omega)⟩, ⟨M.bk zae⟩, ⟨M.up HB⟩⟩
      ·rw [if_neg c19] at H
       have c19b0 := decide_eq_false c19
       clear c19
       have H' := Aside0.mk H
       clear H
       obtain ⟨za9, zba, zbb⟩ := M.bc3 (w := wc) (a := .int .i64 a0_0) (b := .slice A0_1 l0_1.length c0_1) (c := .slice A0_2 l0_2.length c0_2) zae.out
       obtain ⟨zbc, zbd, zbe⟩ := M.bf3 zae
       go_wp2
       repeat (go_quiet (fail); try go_wp2)
       go_meet
       case rel => exact ⟨_, (false), M.eqv, H', ⟨by have := HJ1.out; (omega)⟩, ⟨M.bk zae⟩, ⟨M.up HB⟩⟩
    case rest =>
     clear HC10
     obtain ⟨kq, x49_9, rfl, HA, HJ9, zae, HB⟩ := hcut
     cases kq with
     | zero => exact absurd HA.out (by simp [pleachref19_Wrong.j1])
     | succ kj9 =>
      have H := HA.out
      clear HA
      simp only [pleachref19_Wrong.j1] at H
      by_cases c24 : x49_9 = true
      ·subst c24
       have H1 := H; rw [if_pos rfl] at H1
       clear H
       have H := H1
       clear H1
       obtain rfl := Option.some.inj H
       go_wp2
       repeat (go_quiet (fail); try go_wp2)
       go_ret
       exact M.fin (M.up HB)
      ·replace c24 := Bool.eq_false_iff.mpr c24
       subst c24
       have H1 : (pleachref19_Wrong.l0 kj9 0 a0_0 l0_1 l0_2) = some r := by rw [if_neg (show ¬ (false = true) by decide)] at H; exact H
       clear H
       have H := H1
       clear H1
       have H' := Aside0.mk H
       clear H
       go_wp2
       repeat (go_quiet (fail); try go_wp2)
       go_loopg [3] kj9 (fun kq v3 w' => ∃ (x3_3 : Int), v3 = .int .i64 x3_3 ∧ Aside0 (pleachref19_Wrong.l0 kq x3_3 a0_0 l0_1 l0_2 = some r) ∧ Aside0 (kq ≤ kj9) ∧ Aside0 (w'.heap[zad]? = some (.cells #[.int .i64 a0_0, (.slice A0_1 l0_1.length c0_1), (.slice A0_2 l0_2.length c0_2)] 26 (0, 0))) ∧ Aside0 (Below w.heap.size w w'))
       case atStart => exact ⟨(0), M.eqv, H', ⟨Nat.le_refl _⟩, ⟨M.bk zae⟩, ⟨M.up HB⟩⟩
       case round =>
        clear H'
        obtain ⟨x3_3, rfl, HA, HK3, zae, HB⟩ := hrel
        cases gk with
        | zero => exact absurd HA.out (by simp [pleachref19_Wrong.l0])
        | succ k3 =>
         have H := HA.out
         clear HA
         simp only [pleachref19_Wrong.l0] at H
         by_cases c25 : x3_3 < (l0_2.length : Int)
         ·rw [if_pos c25] at H
          have c25b0 := decide_eq_true c25
          clear c25
          by_cases c26 : 0 ≤ x3_3
          ·rw [if_pos c26] at H
           have c26b0 := decide_eq_true c26
           clear c26
           by_cases c27 : (rd l0_2 x3_3) < 1
           ·rw [if_pos c27] at H
            have c27b0 := decide_eq_true c27
            clear c27
            obtain rfl := Option.some.inj H
            obtain ⟨zbf, zbg, zbh⟩ := M.bc3 (w := wr) (a := .int .i64 a0_0) (b := .slice A0_1 l0_1.length c0_1) (c := .slice A0_2 l0_2.length c0_2) zae.out
            obtain ⟨zbi, zbj, zbk⟩ := M.bf3 zae
            have p281 : 0 ≤ (x3_3 : Int) := M.dt
            have q281 : x3_3 < (l0_2.length : Int) := M.dt
            obtain ⟨ad281, e281, hx281_0⟩ := Kd.at_int HR0_2.out x3_3 p281 q281
            cases e281
            replace hx281_0 := M.hc HB hx281_0
            replace p281 := eq_true p281
            replace q281 := eq_true q281
            go_wp2
            repeat (go_quiet (fail); try go_wp2)
            go_ret
            exact M.fin (M.up HB)
           ·rw [if_neg c27] at H
            have c27b0 := decide_eq_false c27
            clear c27
            by_cases c29 : (rd l0_2 x3_3) > 2147483648
            ·rw [if_pos c29] at H
             have c29b0 := decide_eq_true c29
             clear c29
             obtain rfl := Option.some.inj H
             obtain ⟨zbl, zbm, zbn⟩ := M.bc3 (w := wr) (a := .int .i64 a0_0) (b := .slice A0_1 l0_1.length c0_1) (c := .slice A0_2 l0_2.length c0_2) zae.out
             obtain ⟨zbo, zbp, zbq⟩ := M.bf3 zae
             have p281 : 0 ≤ (x3_3 : Int) := M.dt
             have q281 : x3_3 < (l0_2.length : Int) := M.dt
             obtain ⟨ad281, e281, hx281_0⟩ := Kd.at_int HR0_2.out x3_3 p281 q281
             cases e281
             replace hx281_0 := M.hc HB hx281_0
             replace p281 := eq_true p281
             replace q281 := eq_true q281
             have p282 : 0 ≤ (x3_3 : Int) := M.dt
             have q282 : x3_3 < (l0_2.length : Int) := M.dt
             obtain ⟨ad282, e282, hx282_0⟩ := Kd.at_int HR0_2.out x3_3 p282 q282
             obtain rfl : ad281 = ad282 := (by injection e282)
             replace hx282_0 := M.hc HB hx282_0
             replace p282 := eq_true p282
             replace q282 := eq_true q282
             go_wp2
             repeat (go_quiet (fail); try go_wp2)
             go_ret
             exact M.fin (M.up HB)
            ·rw [if_neg c29] at H
             have c29b0 := decide_eq_false c29
             clear c29
             have H' := Aside0.mk H
             clear H
             obtain ⟨zbr, zbs, zbt⟩ := M.bc3 (w := wr) (a := .int .i64 a0_0) (b := .slice A0_1 l0_1.length c0_1) (c := .slice A0_2 l0_2.length c0_2) zae.out
             obtain ⟨zbu, zbv, zbw⟩ := M.bf3 zae
             have p281 : 0 ≤ (x3_3 : Int) := M.dt
             have q281 : x3_3 < (l0_2.length : Int) := M.dt
             obtain ⟨ad281, e281, hx281_0⟩ := Kd.at_int HR0_2.out x3_3 p281 q281
             cases e281
             replace hx281_0 := M.hc HB hx281_0
             replace p281 := eq_true p281
             replace q281 := eq_true q281
             have p282 : 0 ≤ (x3_3 : Int) := M.dt
             have q282 : x3_3 < (l0_2.length : Int) := M.dt
             obtain ⟨ad282, e282, hx282_0⟩ := Kd.at_int HR0_2.out x3_3 p282 q282
             obtain rfl : ad281 = ad282 := (by injection e282)
             replace hx282_0 := M.hc HB hx282_0
             replace p282 := eq_true p282
             replace q282 := eq_true q282
             go_wp2
             repeat (go_quiet (fail); try go_wp2)
             go_roundg k3
             case measure => have := HJ1.out; have := HJ9.out; have := HK3.out; omega
             case rel => exact ⟨(wrap64 (x3_3 + 1)), M.eqv, H', ⟨by have := HJ1.out; have := HJ9.out; have := HK3.out; omega⟩, ⟨M.bk zae⟩, ⟨M.up HB⟩⟩
          ·exact M.nf c26 H
         ·rw [if_neg c25] at H
          have c25b0 := decide_eq_false c25
          clear c25
          have H' := Aside0.mk H
          clear H
          obtain ⟨zbx, zby, zbz⟩ := M.bc3 (w := wr) (a := .int .i64 a0_0) (b := .slice A0_1 l0_1.length c0_1) (c := .slice A0_2 l0_2.length c0_2) zae.out
          obtain ⟨zbA, zbB, zbC⟩ := M.bf3 zae
          go_wp2
          repeat (go_quiet (fail); try go_wp2)
          go_loopg [4] k3 (fun kq v4 w' => ∃ (x4_4 : Int), v4 = .int .i64 x4_4 ∧ Aside0 (pleachref19_Wrong.l1 kq x4_4 a0_0 l0_1 l0_2 = some r) ∧ Aside0 (kq ≤ k3) ∧ Aside0 (w'.heap[zad]? = some (.cells #[.int .i64 a0_0, (.slice A0_1 l0_1.length c0_1), (.slice A0_2 l0_2.length c0_2)] 26 (0, 0))) ∧ Aside0 (Below w.heap.size w w'))
          case atStart => exact ⟨(0), M.eqv, H', ⟨Nat.le_refl _⟩, ⟨M.bk zae⟩, ⟨M.up HB⟩⟩
          case round =>
           clear H'
           clear c25b0 zbx zby zbz zbA zbB zbC
           obtain ⟨x4_4, rfl, HA, HK4, zae, HB⟩ := hrel
           cases gk with
           | zero => exact absurd HA.out (by simp [pleachref19_Wrong.l1])
           | succ k4 =>
            have H := HA.out
            clear HA
            simp only [pleachref19_Wrong.l1] at H
            by_cases c33 : x4_4 < (l0_1.length : Int)
            ·rw [if_pos c33] at H
             have c33b0 := decide_eq_true c33
             clear c33
             by_cases c34 : 0 ≤ x4_4
             ·rw [if_pos c34] at H
              have c34b0 := decide_eq_true c34
              clear c34
              have HC35 := Aside0.mk H
              clear H
              obtain ⟨zbD, zbE, zbF⟩ := M.bc3 (w := wr) (a := .int .i64 a0_0) (b := .slice A0_1 l0_1.length c0_1) (c := .slice A0_2 l0_2.length c0_2) zae.out
              obtain ⟨zbG, zbH, zbI⟩ := M.bf3 zae
              have p283 : 0 ≤ (x4_4 : Int) := M.dt
              have q283 : x4_4 < (l0_1.length : Int) := M.dt
              obtain ⟨ad283, e283, hx283_0, hx283_1⟩ := at_T78 HR0_1.out x4_4 p283 q283
              cases e283
              replace hx283_0 := M.hc HB hx283_0
              replace hx283_1 := M.hc HB hx283_1
              replace p283 := eq_true p283
              replace q283 := eq_true q283
              have p284 : 0 ≤ (x4_4 : Int) := M.dt
              have q284 : x4_4 < (l0_1.length : Int) := M.dt
              obtain ⟨ad284, e284, hx284_0, hx284_1⟩ := at_T78 HR0_1.out x4_4 p284 q284
              obtain rfl : ad283 = ad284 := (by injection e284)
              replace hx284_0 := M.hc HB hx284_0
              replace hx284_1 := M.hc HB hx284_1
              replace p284 := eq_true p284
              replace q284 := eq_true q284
              go_upto_region 14 with (fail)
              repeat (go_quiet (fail); go_upto_region 14 with (fail))
              go_cut [115] (fun v115 wc => ∃ (kq : Nat) (x115_34 : Bool), v115 = .bool x115_34 ∧ Aside0 (pleachref19_Wrong.j4 kq x4_4 x115_34 a0_0 l0_1 l0_2 = some r) ∧ Aside0 (kq ≤ k4) ∧ Aside0 (wc.heap[zad]? = some (.cells #[.int .i64 a0_0, (.slice (some ad283) l0_1.length c0_1), (.slice A0_2 l0_2.length c0_2)] 26 (0, 0))) ∧ Aside0 (Below w.heap.size w wc))
              case first =>
               have H := HC35.out
               clear HC35
               by_cases c37 : (((rd_T78 l0_1 x4_4).f0).size : Int) < 1
               ·rw [if_pos c37] at H
                have c37b0 := decide_eq_true c37
                have c37b1 : decide (((rd_T78 l0_1 x4_4).f0).size < 1) = true := decide_eq_true (by omega)
                clear c37
                ((skip))
                have H' := Aside0.mk H
                clear H
                go_wp2
                repeat (go_quiet (fail); try go_wp2)
                go_meet
                case rel => exact ⟨_, (true), M.eqv, H', ⟨by have := HJ1.out; have := HJ9.out; have := HK3.out; have := HK4.out; (omega)⟩, ⟨M.bk zae⟩, ⟨M.up HB⟩⟩
               ·rw [if_neg c37] at H
                have c37b0 := decide_eq_false c37
                have c37b1 : decide (((rd_T78 l0_1 x4_4).f0).size < 1) = false := decide_eq_false (by omega)
                clear c37
                ((skip))
                by_cases c38 : (((rd_T78 l0_1 x4_4).f0).size : Int) > 64
                ·rw [if_pos c38] at H
                 have c38b0 := decide_eq_true c38
                 have c38b1 : decide (64 < ((rd_T78 l0_1 x4_4).f0).size) = true := decide_eq_true (by omega)
                 clear c38
                 have H' := Aside0.mk H
                 clear H
                 go_wp2
                 repeat (go_quiet (fail); try go_wp2)
                 go_meet
                 case rel => exact ⟨_, (true), M.eqv, H', ⟨by have := HJ1.out; have := HJ9.out; have := HK3.out; have := HK4.out; (omega)⟩, ⟨M.bk zae⟩, ⟨M.up HB⟩⟩
                ·rw [if_neg c38] at H
                 have c38b0 := decide_eq_false c38
                 have c38b1 : decide (64 < ((rd_T78 l0_1 x4_4).f0).size) = false := decide_eq_false (by omega)
                 clear c38
                 by_cases c39 : a0_0 = 0
                 ·rw [if_pos c39] at H
                  have c39b0 : (a0_0 == 0) = true := beq_iff_eq.mpr c39
                  have c39b1 : (a0_0 != 0) = false := bne_eq_false_iff_eq.mpr c39
                  clear c39
                  by_cases c40 : (((rd_T78 l0_1 x4_4).f1).size : Int) > 2048
                  ·rw [if_pos c40] at H
                   have c40b0 := decide_eq_true c40
                   have c40b1 : decide (2048 < ((rd_T78 l0_1 x4_4).f1).size) = true := decide_eq_true (by omega)
                   clear c40
                   have H' := Aside0.mk H
                   clear H
                   obtain ⟨zbJ, zbK, zbL⟩ := M.bc3 (w := wr) (a := .int .i64 a0_0) (b := .slice (some ad283) l0_1.length c0_1) (c := .slice A0_2 l0_2.length c0_2) zae.out
                   obtain ⟨zbM, zbN, zbO⟩ := M.bf3 zae
                   go_wp2
                   repeat (go_quiet (fail); try go_wp2)
                   go_meet
                   case rel => exact ⟨_, (true), M.eqv, H', ⟨by have := HJ1.out; have := HJ9.out; have := HK3.out; have := HK4.out; (omega)⟩, ⟨M.bk zae⟩, ⟨M.up HB⟩⟩
                  ·rw [if_neg c40] at H
                   have c40b0 := decide_eq_false c40
                   have c40b1 : decide (2048 < ((rd_T78 l0_1 x4_4).f1).size) = false := decide_eq_false (by omega)
                   clear c40
                   by_cases c42 : a0_0 > 0
                   ·rw [if_pos c42] at H
                    have c42b0 := decide_eq_true c42
                    clear c42
                    have H' := Aside0.mk H
                    clear H
                    obtain ⟨zbP, zbQ, zbR⟩ := M.bc3 (w := wr) (a := .int .i64 a0_0) (b := .slice (some ad283) l0_1.length c0_1) (c := .slice A0_2 l0_2.length c0_2) zae.out
                    obtain ⟨zbS, zbT, zbU⟩ := M.bf3 zae
                    go_wp2
                    repeat (go_quiet (fail); try go_wp2)
                    go_meet
                    case rel => exact ⟨_, (((((rd_T78 l0_1 x4_4).f1).size : Int) != 32)), M.eqv, H', ⟨by have := HJ1.out; have := HJ9.out; have := HK3.out; have := HK4.out; (omega)⟩, ⟨M.bk zae⟩, ⟨M.up HB⟩⟩
                   ·rw [if_neg c42] at H
                    have c42b0 := decide_eq_false c42
                    clear c42
                    have H' := Aside0.mk H
                    clear H
                    obtain ⟨zbV, zbW, zbX⟩ := M.bc3 (w := wr) (a := .int .i64 a0_0) (b := .slice (some ad283) l0_1.length c0_1) (c := .slice A0_2 l0_2.length c0_2) zae.out
                    obtain ⟨zbY, zbZ, zb0⟩ := M.bf3 zae
                    go_wp2
                    repeat (go_quiet (fail); try go_wp2)
                    go_meet
                    case rel => exact ⟨_, (false), M.eqv, H', ⟨by have := HJ1.out; have := HJ9.out; have := HK3.out; have := HK4.out; (omega)⟩, ⟨M.bk zae⟩, ⟨M.up HB⟩⟩
                 ·rw [if_neg c39] at H
                  have c39b0 : (a0_0 == 0) = false := beq_eq_false_iff_ne.mpr c39
                  have c39b1 : (a0_0 != 0) = true := bne_iff_ne.mpr c39
                  by_cases c45 : a0_0 > 0
                  ·rw [if_pos c45] at H
                   have c45b0 := decide_eq_true c45
                   clear c45
                   have H' := Aside0.mk H
                   clear H
                   obtain ⟨zb1, zb2, zb3⟩ := M.bc3 (w := wr) (a := .int .i64 a0_0) (b := .slice (some ad283) l0_1.length c0_1) (c := .slice A0_2 l0_2.length c0_2) zae.out
                   obtain ⟨zb4, zb5, zb6⟩ := M.bf3 zae
                   go_wp2
                   repeat (go_quiet (fail); try go_wp2)
                   go_meet
                   case rel => exact ⟨_, (((((rd_T78 l0_1 x4_4).f1).size : Int) != 32)), M.eqv, H', ⟨by have := HJ1.out; have := HJ9.out; have := HK3.out; have := HK4.out; (omega)⟩, ⟨M.bk zae⟩, ⟨M.up HB⟩⟩
                  ·rw [if_neg c45] at H
                   have c45b0 := decide_eq_false c45
                   clear c45
                   have H' := Aside0.mk H
                   clear H
                   obtain ⟨zb7, zb8, zb9⟩ := M.bc3 (w := wr) (a := .int .i64 a0_0) (b := .slice (some ad283) l0_1.length c0_1) (c := .slice A0_2 l0_2.length c0_2) zae.out
                   obtain ⟨zca, zcb, zcc⟩ := M.bf3 zae
                   go_wp2
                   repeat (go_quiet (fail); try go_wp2)
                   go_meet
                   case rel => exact ⟨_, (false), M.eqv, H', ⟨by have := HJ1.out; have := HJ9.out; have := HK3.out; have := HK4.out; (omega)⟩, ⟨M.bk zae⟩, ⟨M.up HB⟩⟩
              case rest =>
               clear HC35
               clear c33b0 c34b0 zbD zbE zbF zbG zbH zbI hx283_0 hx283_1 hx284_0 hx284_1 p283 p284 q283 q284
               obtain ⟨kq, x115_34, rfl, HA, HJ34, zae, HB⟩ := hcut
               cases kq with
               | zero => exact absurd HA.out (by simp [pleachref19_Wrong.j4])
               | succ kj34 =>
                have H := HA.out
                clear HA
                simp only [pleachref19_Wrong.j4] at H
                by_cases c48 : x115_34 = true
                ·subst c48
                 have H1 := H; rw [if_pos rfl] at H1
                 clear H
                 have H := H1
                 clear H1
                 obtain rfl := Option.some.inj H
                 go_wp2
                 repeat (go_quiet (fail); try go_wp2)
                 go_ret
                 exact M.fin (M.up HB)
                ·replace c48 := Bool.eq_false_iff.mpr c48
                 subst c48
                 have H1 : (if x4_4 > 0 then (if 0 ≤ x4_4 then (if x4_4 < (l0_1.length : Int) then (if 0 ≤ (wrap64 (x4_4 - 1)) then (if (wrap64 (x4_4 - 1)) < (l0_1.length : Int) then (if ((Op.bytesLess (((rd_T78 l0_1 (wrap64 (x4_4 - 1))).f0).toList) (((rd_T78 l0_1 x4_4).f0).toList)) = true) then (pleachref19_Wrong.l1 kj34 (wrap64 (x4_4 + 1)) a0_0 l0_1 l0_2) else (some 4)) else (none)) else (none)) else (none)) else (none)) else (pleachref19_Wrong.l1 kj34 (wrap64 (x4_4 + 1)) a0_0 l0_1 l0_2)) = some r := by rw [if_neg (show ¬ (false = true) by decide)] at H; exact H
                 clear H
                 have H := H1
                 clear H1
                 by_cases c49 : x4_4 > 0
                 ·rw [if_pos c49] at H
                  have c49b0 := decide_eq_true c49
                  clear c49
                  by_cases c50 : 0 ≤ x4_4
                  ·rw [if_pos c50] at H
                   have c50b0 := decide_eq_true c50
                   clear c50
                   by_cases c51 : x4_4 < (l0_1.length : Int)
                   ·rw [if_pos c51] at H
                    have c51b0 := decide_eq_true c51
                    clear c51
                    obtain ⟨ji52, hji52⟩ : ∃ j_ : Int, (wrap64 (x4_4 - 1)) = j_ := ⟨_, rfl⟩
                    rw [hji52] at H
                    have hji52w : (IntKind.i64.wrap (x4_4 - 1)) = ji52 := (i64_w _).trans hji52
                    by_cases c53 : 0 ≤ (ji52)
                    ·rw [if_pos c53] at H
                     have c53b0 := decide_eq_true c53
                     clear c53
                     by_cases c54 : (ji52) < (l0_1.length : Int)
                     ·rw [if_pos c54] at H
                      have c54b0 := decide_eq_true c54
                      clear c54
                      by_cases c55 : ((Op.bytesLess (((rd_T78 l0_1 (ji52)).f0).toList) (((rd_T78 l0_1 x4_4).f0).toList)) = true)
                      ·rw [if_pos c55] at H
                       have c55b0 : (Op.bytesLess (((rd_T78 l0_1 (ji52)).f0).toList) (((rd_T78 l0_1 x4_4).f0).toList)) = true := c55
                       clear c55
                       have H' := Aside0.mk H
                       clear H
                       obtain ⟨zcd, zce, zcf⟩ := M.bc3 (w := wc) (a := .int .i64 a0_0) (b := .slice (some ad283) l0_1.length c0_1) (c := .slice A0_2 l0_2.length c0_2) zae.out
                       obtain ⟨zcg, zch, zci⟩ := M.bf3 zae
                       have p285 : 0 ≤ (x4_4 : Int) := M.dt
                       have q285 : x4_4 < (l0_1.length : Int) := M.dt
                       obtain ⟨ad285, e285, hx285_0, hx285_1⟩ := at_T78 HR0_1.out x4_4 p285 q285
                       obtain rfl : ad283 = ad285 := (by injection e285)
                       replace hx285_0 := M.hc HB hx285_0
                       replace hx285_1 := M.hc HB hx285_1
                       replace p285 := eq_true p285
                       replace q285 := eq_true q285
                       have p286 : 0 ≤ ((ji52) : Int) := M.dt
                       have q286 : (ji52) < (l0_1.length : Int) := M.dt
                       obtain ⟨ad286, e286, hx286_0, hx286_1⟩ := at_T78 HR0_1.out (ji52) p286 q286
                       obtain rfl : ad283 = ad286 := (by injection e286)
                       replace hx286_0 := M.hc HB hx286_0
                       replace hx286_1 := M.hc HB hx286_1
                       replace p286 := eq_true p286
                       replace q286 := eq_true q286
                       go_wp2
                       repeat (go_quiet (fail); try go_wp2)
                       go_roundg kj34
                       case measure => have := HJ1.out; have := HJ9.out; have := HK3.out; have := HK4.out; have := HJ34.out; omega
                       case rel => exact ⟨(wrap64 (x4_4 + 1)), M.eqv, H', ⟨by have := HJ1.out; have := HJ9.out; have := HK3.out; have := HK4.out; have := HJ34.out; omega⟩, ⟨M.bk zae⟩, ⟨M.up HB⟩⟩
                      ·rw [if_neg c55] at H
                       have c55b0 : (Op.bytesLess (((rd_T78 l0_1 (ji52)).f0).toList) (((rd_T78 l0_1 x4_4).f0).toList)) = false := by simpa using c55
                       clear c55
                       obtain rfl := Option.some.inj H
                       obtain ⟨zcj, zck, zcl⟩ := M.bc3 (w := wc) (a := .int .i64 a0_0) (b := .slice (some ad283) l0_1.length c0_1) (c := .slice A0_2 l0_2.length c0_2) zae.out
                       obtain ⟨zcm, zcn, zco⟩ := M.bf3 zae
                       have p285 : 0 ≤ (x4_4 : Int) := M.dt
                       have q285 : x4_4 < (l0_1.length : Int) := M.dt
                       obtain ⟨ad285, e285, hx285_0, hx285_1⟩ := at_T78 HR0_1.out x4_4 p285 q285
                       obtain rfl : ad283 = ad285 := (by injection e285)
                       replace hx285_0 := M.hc HB hx285_0
                       replace hx285_1 := M.hc HB hx285_1
                       replace p285 := eq_true p285
                       replace q285 := eq_true q285
                       have p286 : 0 ≤ ((ji52) : Int) := M.dt
                       have q286 : (ji52) < (l0_1.length : Int) := M.dt
                       obtain ⟨ad286, e286, hx286_0, hx286_1⟩ := at_T78 HR0_1.out (ji52) p286 q286
                       obtain rfl : ad283 = ad286 := (by injection e286)
                       replace hx286_0 := M.hc HB hx286_0
                       replace hx286_1 := M.hc HB hx286_1
                       replace p286 := eq_true p286
                       replace q286 := eq_true q286
                       go_wp2
                       repeat (go_quiet (fail); try go_wp2)
                       go_ret
                       exact ⟨by (rfl), M.up HB⟩
                     ·exact M.nf c54 H
                    ·exact M.nf c53 H
                   ·exact M.nf c51 H
                  ·exact M.nf c50 H
                 ·rw [if_neg c49] at H
                  have c49b0 := decide_eq_false c49
                  clear c49
                  have H' := Aside0.mk H
                  clear H
                  go_wp2
                  repeat (go_quiet (fail); try go_wp2)
                  go_roundg kj34
                  case measure => have := HJ1.out; have := HJ9.out; have := HK3.out; have := HK4.out; have := HJ34.out; omega
                  case rel => exact ⟨(wrap64 (x4_4 + 1)), M.eqv, H', ⟨by have := HJ1.out; have := HJ9.out; have := HK3.out; have := HK4.out; have := HJ34.out; omega⟩, ⟨M.bk zae⟩, ⟨M.up HB⟩⟩
             ·exact M.nf c34 H
            ·rw [if_neg c33] at H
             have c33b0 := decide_eq_false c33
             clear c33
             obtain rfl := Option.some.inj H
             obtain ⟨zcp, zcq, zcr⟩ := M.bc3 (w := wr) (a := .int .i64 a0_0) (b := .slice A0_1 l0_1.length c0_1) (c := .slice A0_2 l0_2.length c0_2) zae.out
             obtain ⟨zcs, zct, zcu⟩ := M.bf3 zae
             go_wp2
             repeat (go_quiet (fail); try go_wp2)
             go_ret
             exact M.fin (M.up HB)
def pleachref01_Digits_p.l0 : Nat → Int → List Int → Option (List Int)
  | 0, _, _ => none
  | k + 1, x0, x3 => if x0 > 0 then (if x3.length < 17592186044416 then (pleachref01_Digits_p.l0 k (IntKind.u64.wrap (Int.tdiv x0 128)) (x3 ++ [wrap64 (Int.tmod x0 128)])) else (none)) else (some x3)
def pleachref01_Digits_p.f (k : Nat) (a0 : Int) : Option (List Int) := pleachref01_Digits_p.l0 k (IntKind.u64.wrap (Int.tdiv a0 128)) (([wrap64 (Int.tmod a0 128)] : List Int))
theorem pleachref01_Digits_p.mono_l : ∀ k, (∀ y0 y1, LeO (pleachref01_Digits_p.l0 k y0 y1) (pleachref01_Digits_p.l0 (k + 1) y0 y1))
  | 0 => fun _ _ r h => by simp [pleachref01_Digits_p.l0] at h
  | k + 1 => by
    have ih0 := pleachref01_Digits_p.mono_l k
    · intro y0 y1
      unfold pleachref01_Digits_p.l0
      repeat' first
      | (with_reducible exact ih0 _ _)
      | (with_reducible exact LeO.refl _)
      | (with_reducible refine LeO.ite ?_ ?_)
theorem pleachref01_Digits_p.mono : ∀ a0 k, LeO (pleachref01_Digits_p.f k a0) (pleachref01_Digits_p.f (k + 1) a0) := by
 intro a0 k
 have ih0 := pleachref01_Digits_p.mono_l k
 unfold pleachref01_Digits_p.f
 repeat' (with_reducible exact ih0 _ _)
set_option maxHeartbeats 8000000 in
set_option maxRecDepth 100000 in
theorem pleachref01_Digits_p.calls (k : Nat) (a0 : Int) (r : List Int) (w : World) (h : pleachref01_Digits_p.f k a0 = some r) :
    Calls Tryd.prog 97 #[.int .u64 a0] w fun e w' => ∃ v0_ : Value, e = .returned (v0_) ∧ Kd.R (Kd.int .i64) 3 w' w.heap.size (fun _ => True) v0_ r ∧ Below w.heap.size w w' := by
 have HB := Aside0.mk (Below.refl w.heap.size w)
 have H : (pleachref01_Digits_p.l0 k (IntKind.u64.wrap (Int.tdiv a0 128)) (([wrap64 (Int.tmod a0 128)] : List Int))) = some r := h
 clear h
 obtain ⟨y287, hy287⟩ : ∃ y_ : List Int, y_ = (([wrap64 (Int.tmod a0 128)] : List Int)) := ⟨_, rfl⟩
 replace H : (pleachref01_Digits_p.l0 k (IntKind.u64.wrap (Int.tdiv a0 128)) y287) = some r := by (rw [hy287]; with_reducible exact H)
 have Ny287 := Aside0.mk hy287
 clear hy287
 have H' := Aside0.mk H
 clear H
 go_enter Tryd.func97, Tryd.ntmps97
 go_wp2_with (((with_reducible refine gate_dst (N := 7) rfl ?_); refine Kd.R_lit (Kd.int .i64) _ 3 ?hg (N := 7) ?hd (xs := ([wrap64 (Int.tmod a0 128)] : List Int)) (inner := [.int .i64 (wrap64 (Int.tmod a0 128))]) (ok := fun _ => True) (okp := fun _ => True) ?hr ?hp (fun _ hk => hk) trivial (Below.refl _ _) (Nat.le_refl _) (by simp) ?_; (case hd => rfl); (case hg => rfl); (case hr => (go_simp; done)); (case hp => exact (Reps.one (show Kd.M (Kd.int .i64) _ _ _ (wrap64 (Int.tmod a0 128)) [.int .i64 (wrap64 (Int.tmod a0 128))] from rfl) (Reps.none _ _))); intro v288 w2 ho3 hb hg_ hnew_; clear hg_ hnew_; ((rw [← Ny287.out] at ho3)); have HO289 := Aside0.mk (Kd.R_lower ho3 (below_size (M.up HB))); replace HB := M.upS HB hb; clear hb ho3))
 go_loopg [0, 3] k (fun kq v0 v3 w' => ∃ (x0_1 : Int) (x3_1 : List Int), v0 = .int .u64 x0_1 ∧ Aside0 (pleachref01_Digits_p.l0 kq x0_1 x3_1 = some r) ∧ Aside0 (kq ≤ k) ∧ Aside0 (Kd.R (Kd.int .i64) 3 w' w.heap.size (fun _ => True) v3 x3_1) ∧ Aside0 (Below w.heap.size w w'))
 case atStart => exact ⟨(IntKind.u64.wrap (Int.tdiv a0 128)), (y287), M.eqv, H', ⟨Nat.le_refl _⟩, ⟨by (with_reducible repeat (first | apply Kd.R_alloc | apply Kd.R_drewN | apply Kd.R_drew)); exact HO289.out⟩, ⟨M.up HB⟩⟩
 case round =>
  clear H'
  try clear p2
  obtain ⟨x0_1, x3_1, rfl, HA, HK1, zaa, HB⟩ := hrel
  cases gk with
  | zero => exact absurd HA.out (by simp [pleachref01_Digits_p.l0])
  | succ k1 =>
   have H := HA.out
   clear HA
   simp only [pleachref01_Digits_p.l0] at H
   by_cases c4 : x0_1 > 0
   ·rw [if_pos c4] at H
    have c4b0 := decide_eq_true c4
    clear c4
    by_cases c5 : x3_1.length < 17592186044416
    ·rw [if_pos c5] at H
     have LMc5 := Aside0.mk c5
     clear c5
     obtain ⟨y290, hy290⟩ : ∃ y_ : List Int, y_ = (x3_1 ++ [wrap64 (Int.tmod x0_1 128)]) := ⟨_, rfl⟩
     replace H : (pleachref01_Digits_p.l0 k1 (IntKind.u64.wrap (Int.tdiv x0_1 128)) y290) = some r := by (rw [hy290]; with_reducible exact H)
     have Ny290 := Aside0.mk hy290
     clear hy290
     have H' := Aside0.mk H
     clear H
     go_wp2_with (((with_reducible refine gate_builtin (b := .append) (xs := #[.tmp 12, .tmp 16]) rfl ?_); at_builtin; refine Kd.R_append (Kd.int .i64) (w0 := w) w.heap.size rfl (.tmp 12) (.tmp 16) 24 3 (.int .i64 0) 8 rfl Tryd.underlying24 info3 rfl (by decide) (by omega) u3 x3_1 (wrap64 (Int.tmod x0_1 128)) [.int .i64 (wrap64 (Int.tmod x0_1 128))] (fun _ => True) (fun _ => False) rfl rfl ?aP (fun _ hk => hk.elim) ?aF ?aO ?aB ?aS ?aL ?_; (case aP => exact rfl); (case aB => exact (M.up HB)); (case aF => exact (fun _ _ => trivial)); (case aO => exact (M.ro zaa)); (case aS => exact (below_size (M.up HB))); (case aL => have := LMc5.out; omega); intro v291 w6 ho hb hg hat; rw [← Ny290.out] at ho; replace HB := Aside0.mk (hb); have HO292 := Aside0.mk (ho); clear zaa; clear ho hb hg hat))
     go_roundg k1
     case measure => have := HK1.out; omega
     case rel => exact ⟨(IntKind.u64.wrap (Int.tdiv x0_1 128)), (y290), M.eqv, H', ⟨by have := HK1.out; omega⟩, ⟨by (with_reducible repeat (first | apply Kd.R_alloc | apply Kd.R_drewN | apply Kd.R_drew)); exact HO292.out⟩, ⟨M.up HB⟩⟩
    ·exact M.nf c5 H
   ·rw [if_neg c4] at H
    have c4b0 := decide_eq_false c4
    clear c4
    obtain rfl := Option.some.inj H
    go_wp2
    go_ret
    exact ⟨_, M.eqe, by (with_reducible repeat (first | apply Kd.R_alloc | apply Kd.R_drewN | apply Kd.R_drew)); exact zaa.out, M.up HB⟩
def pleachref01_Digits.f (a0 : Int) : Option (List Int) := if 0 ≤ a0 ∧ a0 < 18446744073709551616 then some (M.vdig a0.toNat) else none
theorem pleachref01_Digits.loop (d : Nat) : ∀ (m : Nat) (pre : List Int), m < 128 ^ d → m < 18446744073709551616 → pre.length + d ≤ 100 →
    ∃ k, pleachref01_Digits_p.l0 k (m : Int) pre = some (if m = 0 then pre else pre ++ M.vdig m) := by
  induction d with
  | zero => ?_
  | succ d ih => ?_
  all_goals
    intro m pre hm h64 hl
    by_cases h0 : m = 0
    case pos => exact ⟨1, by simp only [pleachref01_Digits_p.l0]; rw [if_neg (by omega), if_pos h0]⟩
    case neg =>
      first
      | (exfalso; simp at hm; omega)
      | (obtain ⟨k, hk⟩ := ih (m / 128) (pre ++ [((m % 128 : Nat) : Int)]) (by rw [Nat.pow_succ] at hm; omega) (by omega) (by simp; omega)
         refine ⟨k + 1, ?_⟩
         have e1 : IntKind.u64.wrap (Int.tdiv (m : Int) 128) = ((m / 128 : Nat) : Int) := by
           rw [Int.tdiv_eq_ediv_of_nonneg (by omega), M.u64_id (by omega) (by omega)]; omega
         have e2 : wrap64 (Int.tmod (m : Int) 128) = ((m % 128 : Nat) : Int) := by
           rw [Int.tmod_eq_emod_of_nonneg (by omega), M.wrap64_id (by omega) (by omega)]; omega
         simp only [pleachref01_Digits_p.l0]
         rw [if_pos (by omega), if_pos (by omega), e1, e2, hk, if_neg h0]
         by_cases h1 : m < 128
         · rw [if_pos (by omega), M.vdig_low h1, Nat.mod_eq_of_lt h1]
         · rw [if_neg (by omega), M.vdig_high h1]; simp)
theorem pleachref01_Digits.ev (a0 : Int) (r : List Int) (h : pleachref01_Digits.f a0 = some r) : ∃ k, pleachref01_Digits_p.f k a0 = some r := by
 unfold pleachref01_Digits.f at h
 split at h
 ·rename_i hh
  obtain rfl := Option.some.inj h
  obtain ⟨m, rfl⟩ := Int.eq_ofNat_of_zero_le hh.1
  have e1 : IntKind.u64.wrap (Int.tdiv (m : Int) 128) = ((m / 128 : Nat) : Int) := by
   rw [Int.tdiv_eq_ediv_of_nonneg (by omega), M.u64_id (by omega) (by omega)]; omega
  have e2 : wrap64 (Int.tmod (m : Int) 128) = ((m % 128 : Nat) : Int) := by
   rw [Int.tmod_eq_emod_of_nonneg (by omega), M.wrap64_id (by omega) (by omega)]; omega
  obtain ⟨k, hk⟩ := pleachref01_Digits.loop 9 (m / 128) [((m % 128 : Nat) : Int)] (by omega) (by omega) (by simp)
  refine ⟨k, ?_⟩
  unfold pleachref01_Digits_p.f
  rw [e1, e2, hk, Int.toNat_natCast]
  by_cases h1 : m < 128
  ·rw [if_pos (by omega), M.vdig_low h1, Nat.mod_eq_of_lt h1]
  ·rw [if_neg (by omega), M.vdig_high h1]; simp
 ·cases h
theorem pleachref01_Digits.calls (a0 : Int) (r : List Int) (w : World) (h : pleachref01_Digits.f a0 = some r) :
    Calls Tryd.prog 97 #[.int .u64 a0] w fun e w' => ∃ v0_ : Value, e = .returned (v0_) ∧ Kd.R (Kd.int .i64) 3 w' w.heap.size (fun _ => True) v0_ r ∧ Below w.heap.size w w' := by
 obtain ⟨k, hk⟩ := pleachref01_Digits.ev _ _ h
 exact pleachref01_Digits_p.calls (k := k) (w := w) (h := hk)
def pleachref01_Put_p.l0 : Nat → List Int → ByteArray → Int → Option (ByteArray)
  | 0, _, _, _ => none
  | k + 1, x3, x4, x5 => if x5 < (x3.length : Int) then (if 0 ≤ x5 then (if (wrap64 (x5 + 1)) < (x3.length : Int) then ((some (([(wrap64 ((rd x3 x5) + 128)) % 256] : List Int) : List Int)).bind fun y297 => (if x4.size + (strOfNums y297).size ≤ 9223372036854775807 then (pleachref01_Put_p.l0 k x3 (x4 ++ (strOfNums y297)) (wrap64 (x5 + 1))) else (none))) else ((some (([(rd x3 x5) % 256] : List Int) : List Int)).bind fun y300 => (if x4.size + (strOfNums y300).size ≤ 9223372036854775807 then (pleachref01_Put_p.l0 k x3 (x4 ++ (strOfNums y300)) (wrap64 (x5 + 1))) else (none)))) else (none)) else (some x4)
def pleachref01_Put_p.f (k : Nat) (a0 : Int) : Option (ByteArray) := (pleachref01_Digits.f a0).bind fun t293 => (pleachref01_Put_p.l0 k t293 (⟨#[]⟩ : ByteArray) 0)
theorem pleachref01_Put_p.mono_l : ∀ k, (∀ y0 y1 y2, LeO (pleachref01_Put_p.l0 k y0 y1 y2) (pleachref01_Put_p.l0 (k + 1) y0 y1 y2))
  | 0 => fun _ _ _ r h => by simp [pleachref01_Put_p.l0] at h
  | k + 1 => by
    have ih0 := pleachref01_Put_p.mono_l k
    · intro y0 y1 y2
      unfold pleachref01_Put_p.l0
      repeat' first
      | (with_reducible exact ih0 _ _ _)
      | (with_reducible exact LeO.refl _)
      | (with_reducible refine LeO.ite ?_ ?_)
      | (with_reducible refine LeO.bind ?_ (fun _ => ?_))
theorem pleachref01_Put_p.mono : ∀ a0 k, LeO (pleachref01_Put_p.f k a0) (pleachref01_Put_p.f (k + 1) a0) := by
  intro a0 k
  have ih0 := pleachref01_Put_p.mono_l k
  unfold pleachref01_Put_p.f
  repeat' first
      | (with_reducible exact ih0 _ _ _)
      | (with_reducible exact LeO.refl _)
      | (with_reducible refine LeO.bind ?_ (fun _ => ?_))
set_option maxHeartbeats 8000000 in
set_option maxRecDepth 100000 in
theorem pleachref01_Put_p.calls (k : Nat) (a0 : Int) (r : ByteArray) (w : World) (h : pleachref01_Put_p.f k a0 = some r) :
    Calls Tryd.prog 83 #[.int .u64 a0] w fun e w' => e = .returned (.string r) ∧ Below w.heap.size w w' := by
 have HB := Aside0.mk (Below.refl w.heap.size w)
 have H : ((pleachref01_Digits.f a0).bind fun t293 => (pleachref01_Put_p.l0 k t293 (⟨#[]⟩ : ByteArray) 0)) = some r := h
 clear h
 replace H := Option.bind_eq_some_iff.mp H
 obtain ⟨t293, A20, H⟩ := H
 replace H : (pleachref01_Put_p.l0 k t293 (⟨#[]⟩ : ByteArray) 0) = some r := H
 have A2 := Aside0.mk A20
 clear A20
 have H' := Aside0.mk H
 clear H
 go_enter Tryd.func83, Tryd.ntmps83
 go_wp2_with (((with_reducible refine gate_callee (f := 97) rfl ?_); refine M.goes (some 8) Tryd.func97 #[.int .u64 a0] rfl ?_; (with_reducible refine (pleachref01_Digits.calls a0 t293 _ A2.out).mono ?_); rintro e w3 ⟨v294, rfl, ho0, hb⟩; refine ⟨_, rfl, ?_⟩; have HO295 := Aside0.mk (Kd.R_lower ho0 (below_size (M.up HB))); replace HB := M.upS HB hb; clear hb ho0))
 go_loopg [4, 5] k (fun kq v4 v5 w' => ∃ (x4_1 : ByteArray) (x5_1 : Int), v4 = .string x4_1 ∧ v5 = .int .i64 x5_1 ∧ Aside0 (pleachref01_Put_p.l0 kq t293 x4_1 x5_1 = some r) ∧ Aside0 (kq ≤ k) ∧ Aside0 (Kd.R (Kd.int .i64) 3 w' w.heap.size (fun _ => True) v294 t293) ∧ Aside0 (Below w.heap.size w w'))
 case atStart => exact ⟨((⟨#[]⟩ : ByteArray)), (0), M.eqv, M.eqv, H', ⟨Nat.le_refl _⟩, ⟨by (with_reducible repeat (first | apply Kd.R_alloc | apply Kd.R_drewN | apply Kd.R_drew)); exact HO295.out⟩, ⟨M.up HB⟩⟩
 case round =>
  clear H'
  try clear p2
  obtain ⟨x4_1, x5_1, rfl, rfl, HA, HK1, zaa, HB⟩ := hrel
  cases gk with
  | zero => exact absurd HA.out (by simp [pleachref01_Put_p.l0])
  | succ k1 =>
   have H := HA.out
   clear HA
   simp only [pleachref01_Put_p.l0] at H
   by_cases c4 : x5_1 < (t293.length : Int)
   ·rw [if_pos c4] at H
    have c4b0 := decide_eq_true c4
    clear c4
    by_cases c5 : 0 ≤ x5_1
    ·rw [if_pos c5] at H
     have c5b0 := decide_eq_true c5
     clear c5
     by_cases c6 : (wrap64 (x5_1 + 1)) < (t293.length : Int)
     ·rw [if_pos c6] at H
      have c6b0 := decide_eq_true c6
      clear c6
      obtain ⟨y297, hy297⟩ : ∃ y_ : List Int, y_ = (([(wrap64 ((rd t293 x5_1) + 128)) % 256] : List Int)) := ⟨_, rfl⟩
      replace H : (if x4_1.size + (strOfNums y297).size ≤ 9223372036854775807 then (pleachref01_Put_p.l0 k1 t293 (x4_1 ++ (strOfNums y297)) (wrap64 (x5_1 + 1))) else (none)) = some r := by (have H2_ := (Option.bind_some _ _).symm.trans H; rw [hy297]; with_reducible exact H2_)
      have Ny297 := Aside0.mk hy297
      clear hy297
      by_cases c7 : x4_1.size + (strOfNums y297).size ≤ 9223372036854775807
      ·rw [if_pos c7] at H
       have c7b0 := eq_true c7
       have c7b1 := decide_eq_true c7
       try have c7b2 : (9223372036854775807 < x4_1.size + (strOfNums y297).size) = False := eq_false (Nat.not_lt.2 c7)
       have H' := Aside0.mk H
       clear H
       obtain ⟨Ao8, co8, eo8⟩ := Kd.R_slice zaa.out
       subst eo8
       have p296 : 0 ≤ (x5_1 : Int) := M.dt
       have q296 : x5_1 < (t293.length : Int) := M.dt
       obtain ⟨ad296, e296, hx296_0⟩ := Kd.at_int (Kd.R_reads' zaa.out).2.2 x5_1 p296 q296
       cases e296
       replace p296 := eq_true p296
       replace q296 := eq_true q296
       go_wp2_with (((with_reducible refine gate_dst (N := 29) rfl ?_); refine Kd.R_lit (Kd.int .u8) _ 5 ?hg (N := 29) ?hd (xs := ([(wrap64 ((rd t293 x5_1) + 128)) % 256] : List Int)) (inner := [.int .u8 ((wrap64 ((rd t293 x5_1) + 128)) % 256)]) (ok := fun _ => True) (okp := fun _ => True) ?hr ?hp (fun _ hk => hk) trivial (Below.refl _ _) (Nat.le_refl _) (by simp) ?_; (case hd => rfl); (case hg => rfl); (case hr => (go_simp; done)); (case hp => exact (Reps.one (show Kd.M (Kd.int .u8) _ _ _ ((wrap64 ((rd t293 x5_1) + 128)) % 256) [.int .u8 ((wrap64 ((rd t293 x5_1) + 128)) % 256)] from rfl) (Reps.none _ _))); intro v298 w9 ho10 hb hg_ hnew_; clear hg_ hnew_; ((rw [← Ny297.out] at ho10)); replace zaa := M.roB zaa hb; have HO299 := Aside0.mk (Kd.R_lower ho10 (below_size (M.up HB))); replace HB := M.upS HB hb; clear hb ho10; have hcv11 := own_string (P := Tryd.prog) Tryd.underlying101 Tryd.underlying5 Tryd.underlying9 (Kd.own_of_R HO299.out)))
       go_roundg k1
       case measure => have := HK1.out; omega
       case rel => exact ⟨(x4_1 ++ (strOfNums y297)), (wrap64 (x5_1 + 1)), M.eqv, M.eqv, H', ⟨by have := HK1.out; omega⟩, ⟨by (with_reducible repeat (first | apply Kd.R_alloc | apply Kd.R_drewN | apply Kd.R_drew)); exact zaa.out⟩, ⟨M.up HB⟩⟩
      ·exact M.nf c7 H
     ·rw [if_neg c6] at H
      have c6b0 := decide_eq_false c6
      clear c6
      obtain ⟨y300, hy300⟩ : ∃ y_ : List Int, y_ = (([(rd t293 x5_1) % 256] : List Int)) := ⟨_, rfl⟩
      replace H : (if x4_1.size + (strOfNums y300).size ≤ 9223372036854775807 then (pleachref01_Put_p.l0 k1 t293 (x4_1 ++ (strOfNums y300)) (wrap64 (x5_1 + 1))) else (none)) = some r := by (have H2_ := (Option.bind_some _ _).symm.trans H; rw [hy300]; with_reducible exact H2_)
      have Ny300 := Aside0.mk hy300
      clear hy300
      by_cases c12 : x4_1.size + (strOfNums y300).size ≤ 9223372036854775807
      ·rw [if_pos c12] at H
       have c12b0 := eq_true c12
       have c12b1 := decide_eq_true c12
       try have c12b2 : (9223372036854775807 < x4_1.size + (strOfNums y300).size) = False := eq_false (Nat.not_lt.2 c12)
       have H' := Aside0.mk H
       clear H
       obtain ⟨Ao13, co13, eo13⟩ := Kd.R_slice zaa.out
       subst eo13
       have p296 : 0 ≤ (x5_1 : Int) := M.dt
       have q296 : x5_1 < (t293.length : Int) := M.dt
       obtain ⟨ad296, e296, hx296_0⟩ := Kd.at_int (Kd.R_reads' zaa.out).2.2 x5_1 p296 q296
       cases e296
       replace p296 := eq_true p296
       replace q296 := eq_true q296
       go_wp2_with (((with_reducible refine gate_dst (N := 29) rfl ?_); refine Kd.R_lit (Kd.int .u8) _ 5 ?hg (N := 29) ?hd (xs := ([(rd t293 x5_1) % 256] : List Int)) (inner := [.int .u8 ((rd t293 x5_1) % 256)]) (ok := fun _ => True) (okp := fun _ => True) ?hr ?hp (fun _ hk => hk) trivial (Below.refl _ _) (Nat.le_refl _) (by simp) ?_; (case hd => rfl); (case hg => rfl); (case hr => (go_simp; done)); (case hp => exact (Reps.one (show Kd.M (Kd.int .u8) _ _ _ ((rd t293 x5_1) % 256) [.int .u8 ((rd t293 x5_1) % 256)] from rfl) (Reps.none _ _))); intro v301 w14 ho15 hb hg_ hnew_; clear hg_ hnew_; ((rw [← Ny300.out] at ho15)); replace zaa := M.roB zaa hb; have HO302 := Aside0.mk (Kd.R_lower ho15 (below_size (M.up HB))); replace HB := M.upS HB hb; clear hb ho15; have hcv16 := own_string (P := Tryd.prog) Tryd.underlying101 Tryd.underlying5 Tryd.underlying9 (Kd.own_of_R HO302.out)))
       go_roundg k1
       case measure => have := HK1.out; omega
       case rel => exact ⟨(x4_1 ++ (strOfNums y300)), (wrap64 (x5_1 + 1)), M.eqv, M.eqv, H', ⟨by have := HK1.out; omega⟩, ⟨by (with_reducible repeat (first | apply Kd.R_alloc | apply Kd.R_drewN | apply Kd.R_drew)); exact zaa.out⟩, ⟨M.up HB⟩⟩
      ·exact M.nf c12 H
    ·exact M.nf c5 H
   ·rw [if_neg c4] at H
    have c4b0 := decide_eq_false c4
    clear c4
    obtain rfl := Option.some.inj H
    obtain ⟨Ao17, co17, eo17⟩ := Kd.R_slice zaa.out
    subst eo17
    go_wp2
    go_ret
    exact M.fin (M.up HB)
def pleachref01_Put.f (a0 : Int) : Option ByteArray := if 0 ≤ a0 ∧ a0 < 18446744073709551616 then some (M.sb (M.vb a0.toNat)) else none
theorem pleachref01_Put.one (d : Int) : strOfNums [d] = M.sb [UInt8.ofNat d.toNat] := rfl
theorem pleachref01_Put.loop (l : List Int) (hl : l.length ≤ 10) (hr : ∀ d ∈ l, 0 ≤ d ∧ d < 128) : ∀ (rest pre : List Int) (out : ByteArray), l = pre ++ rest → out.size = pre.length →
    ∃ k, pleachref01_Put_p.l0 k l out (pre.length : Int) = some (out ++ M.sb (M.venc rest)) := by
 intro rest
 induction rest with
 | nil =>
  intro pre out he ho
  refine ⟨1, ?_⟩
  simp only [pleachref01_Put_p.l0]
  rw [if_neg (by rw [he]; simp)]
  congr 1
  exact M.bs_inj (by rw [M.bs_append]; simp [M.venc, M.bs_sb])
 | cons d rest ih =>
  intro pre out he ho
  have hlen : l.length = pre.length + rest.length + 1 := by rw [he]; simp; omega
  have hd := hr d (by rw [he]; simp)
  have hrd : rd l (pre.length : Int) = d := by rw [rd, he]; simp
  have hw : wrap64 ((pre.length : Int) + 1) = ((pre.length + 1 : Nat) : Int) := by rw [M.wrap64_id (by omega) (by omega)]; omega
  have hsz : ∀ x, (strOfNums [x]).size = 1 := fun x => by rw [strOfNums_size]; rfl
  have hp : pre.length + 1 = (pre ++ [d]).length := by simp
  cases rest with
  | nil =>
   obtain ⟨k, hk⟩ := ih (pre ++ [d]) (out ++ M.sb [UInt8.ofNat d.toNat]) (by rw [he]; simp) (by rw [M.size_append, M.size_sb, ho]; simp)
   refine ⟨k + 1, ?_⟩
   have e : (rd l (pre.length : Int)) % 256 = d := by rw [hrd]; omega
   simp only [List.length_nil] at hlen
   simp only [pleachref01_Put_p.l0, Option.bind_some]
   rw [if_pos (by omega), if_pos (by omega), hw, if_neg (by omega), e, hsz, if_pos (by omega), pleachref01_Put.one, hp, hk]
   congr 1
   exact M.bs_inj (by simp [M.bs_append, M.bs_sb, M.venc])
  | cons e rest =>
   obtain ⟨k, hk⟩ := ih (pre ++ [d]) (out ++ M.sb [UInt8.ofNat (d.toNat + 128)]) (by rw [he]; simp) (by rw [M.size_append, M.size_sb, ho]; simp)
   refine ⟨k + 1, ?_⟩
   have e2 : (wrap64 ((rd l (pre.length : Int)) + 128)) % 256 = d + 128 := by rw [hrd, M.wrap64_id (by omega) (by omega)]; omega
   have e3 : (d + 128).toNat = d.toNat + 128 := by omega
   simp only [pleachref01_Put_p.l0, Option.bind_some]
   simp only [List.length_cons] at hlen
   rw [if_pos (by omega), if_pos (by omega), hw, if_pos (by omega), e2, hsz, if_pos (by omega), pleachref01_Put.one, e3, hp, hk]
   congr 1
   exact M.bs_inj (by simp [M.bs_append, M.bs_sb, M.venc_cons])
theorem pleachref01_Put.ev (a0 : Int) (r : ByteArray) (h : pleachref01_Put.f a0 = some r) : ∃ k, pleachref01_Put_p.f k a0 = some r := by
 unfold pleachref01_Put.f at h
 split at h
 ·rename_i hh
  obtain rfl := Option.some.inj h
  obtain ⟨m, rfl⟩ := Int.eq_ofNat_of_zero_le hh.1
  obtain ⟨k, hk⟩ := pleachref01_Put.loop (M.vdig m) (by rw [M.vdig_length]; exact M.vb_le m (by omega)) (M.vdig_range m) (M.vdig m) [] (⟨#[]⟩ : ByteArray) rfl rfl
  refine ⟨k, ?_⟩
  unfold pleachref01_Put_p.f pleachref01_Digits.f
  rw [if_pos hh]
  simp only [Option.bind_some, Int.toNat_natCast]
  refine Eq.trans hk ?_
  congr 1
  exact M.bs_inj (by rw [M.bs_append, M.bs_nil, List.nil_append, M.bs_sb, M.bs_sb, M.venc_vdig])
 ·cases h
theorem pleachref01_Put.calls (a0 : Int) (r : ByteArray) (w : World) (h : pleachref01_Put.f a0 = some r) :
    Calls Tryd.prog 83 #[.int .u64 a0] w fun e w' => e = .returned (.string r) ∧ Below w.heap.size w w' := by
 obtain ⟨k, hk⟩ := pleachref01_Put.ev _ _ h
 exact pleachref01_Put_p.calls (k := k) (w := w) (h := hk)
def pleachref04_PutNum_p.j0 : Nat → Int → Option (ByteArray)
  | 0, _ => none
  | k + 1, x0 => (pleachref01_Put.f (IntKind.u64.wrap (x0))).bind fun t303 => (some t303)
def pleachref04_PutNum_p.f (k : Nat) (a0 : Int) : Option (ByteArray) := if a0 < 0 then (pleachref04_PutNum_p.j0 k 0) else (pleachref04_PutNum_p.j0 k a0)
theorem pleachref04_PutNum_p.mono_l : ∀ k, (∀ y0, LeO (pleachref04_PutNum_p.j0 k y0) (pleachref04_PutNum_p.j0 (k + 1) y0))
  | 0 => fun _ r h => by simp [pleachref04_PutNum_p.j0] at h
  | k + 1 => by
    have ih0 := pleachref04_PutNum_p.mono_l k
    · intro y0
      unfold pleachref04_PutNum_p.j0
      repeat' (with_reducible exact LeO.refl _)
theorem pleachref04_PutNum_p.mono : ∀ a0 k, LeO (pleachref04_PutNum_p.f k a0) (pleachref04_PutNum_p.f (k + 1) a0) := by
  intro a0 k
  have ih0 := pleachref04_PutNum_p.mono_l k
  unfold pleachref04_PutNum_p.f
  repeat' first
      | (with_reducible exact ih0 _)
      | (with_reducible refine LeO.ite ?_ ?_)
set_option maxHeartbeats 8000000 in
set_option maxRecDepth 100000 in
theorem pleachref04_PutNum_p.calls (k : Nat) (a0 : Int) (r : ByteArray) (w : World) (h : pleachref04_PutNum_p.f k a0 = some r) :
    Calls Tryd.prog 59 #[.int .i64 a0] w fun e w' => e = .returned (.string r) ∧ Below w.heap.size w w' := by
 have HB := Aside0.mk (Below.refl w.heap.size w)
 have H : (if a0 < 0 then (pleachref04_PutNum_p.j0 k 0) else (pleachref04_PutNum_p.j0 k a0)) = some r := h
 clear h
 have HC2 := Aside0.mk H
 clear H
 go_enter Tryd.func59, Tryd.ntmps59
 go_upto_if 4 with (fail)
 go_cut [0] (fun v0 wc => ∃ (kq : Nat) (x0_1 : Int), v0 = .int .i64 x0_1 ∧ Aside0 (pleachref04_PutNum_p.j0 kq x0_1 = some r) ∧ Aside0 (kq ≤ k) ∧ Aside0 (Below w.heap.size w wc))
 case first =>
  have H := HC2.out
  clear HC2
  by_cases c3 : a0 < 0
  ·rw [if_pos c3] at H
   have c3b0 := decide_eq_true c3
   clear c3
   ((rw [c3b0]))
   have H' := Aside0.mk H
   clear H
   go_wp2
   go_meet
   case rel => exact ⟨_, (0), M.eqv, H', ⟨by (omega)⟩, ⟨M.up HB⟩⟩
  ·rw [if_neg c3] at H
   have c3b0 := decide_eq_false c3
   clear c3
   ((rw [c3b0]))
   have H' := Aside0.mk H
   clear H
   go_wp2
   go_meet
   case rel => exact ⟨_, (a0), M.eqv, H', ⟨by (omega)⟩, ⟨M.up HB⟩⟩
 case rest =>
  clear HC2
  obtain ⟨kq, x0_1, rfl, HA, HJ1, HB⟩ := hcut
  cases kq with
  | zero => exact absurd HA.out (by simp [pleachref04_PutNum_p.j0])
  | succ kj1 =>
   have H := HA.out
   clear HA
   simp only [pleachref04_PutNum_p.j0] at H
   replace H := Option.bind_eq_some_iff.mp H
   obtain ⟨t303, A40, H⟩ := H
   replace H : (some t303) = some r := H
   have A4 := Aside0.mk A40
   clear A40
   obtain rfl := Option.some.inj H
   go_wp2_with (((with_reducible refine gate_callee (f := 83) rfl ?_); refine M.goes (some 7) Tryd.func83 #[.int .u64 (IntKind.u64.wrap (x0_1))] rfl ?_; (with_reducible refine (pleachref01_Put.calls (IntKind.u64.wrap (x0_1)) t303 _ A4.out).mono ?_); rintro e w5 ⟨rfl, hb⟩; refine ⟨_, rfl, ?_⟩; replace HB := M.upS HB hb; clear hb))
   go_ret
   exact M.fin (M.up HB)
def pleachref04_PutNum.f (a0 : Int) : Option ByteArray := if a0 ≤ 9223372036854775807 then some (M.sb (M.vb a0.toNat)) else none
theorem pleachref04_PutNum.ev (a0 : Int) (r : ByteArray) (h : pleachref04_PutNum.f a0 = some r) : ∃ k, pleachref04_PutNum_p.f k a0 = some r := by
 unfold pleachref04_PutNum.f at h
 split at h
 ·rename_i hh
  have key : ∀ n : Nat, n ≤ 9223372036854775807 → pleachref04_PutNum_p.j0 1 (n : Int) = some (M.sb (M.vb n)) := by
   intro n hn
   simp only [pleachref04_PutNum_p.j0, pleachref01_Put.f]
   rw [M.u64_id (by omega) (by omega), if_pos ⟨by omega, by omega⟩, Int.toNat_natCast]; rfl
  refine ⟨1, ?_⟩
  unfold pleachref04_PutNum_p.f
  by_cases h0 : a0 < 0
  ·rw [if_pos h0]
   have := key 0 (by decide)
   rw [show a0.toNat = 0 from by omega] at h
   exact this.trans h
  ·rw [if_neg h0]
   have := key a0.toNat (by omega)
   rw [show ((a0.toNat : Nat) : Int) = a0 from by omega] at this
   exact this.trans h
 ·cases h
theorem pleachref04_PutNum.calls (a0 : Int) (r : ByteArray) (w : World) (h : pleachref04_PutNum.f a0 = some r) :
    Calls Tryd.prog 59 #[.int .i64 a0] w fun e w' => e = .returned (.string r) ∧ Below w.heap.size w w' := by
 obtain ⟨k, hk⟩ := pleachref04_PutNum.ev _ _ h
 exact pleachref04_PutNum_p.calls (k := k) (w := w) (h := hk)
def pleachref04_PutText.f (a0 : ByteArray) : Option ByteArray := if a0.size ≤ 9223372036854775797 then some (M.sb (M.vb a0.size) ++ a0) else none
theorem pleachref04_PutText.go (a0 p : ByteArray) (w : World) (h0 : a0.size ≤ 9223372036854775797) (hp : pleachref01_Put.f (a0.size : Int) = some p) (hs : p.size + a0.size ≤ 9223372036854775807) :
    Calls Tryd.prog 60 #[.string a0] w fun e w' => e = .returned (.string (p ++ a0)) ∧ Below w.heap.size w w' := by
 have HP := Aside0.mk hp
 clear hp
 have c3b0 := eq_true hs
 have c3b1 : decide (p.size + a0.size ≤ 9223372036854775807) = true := decide_eq_true hs
 have c3b2 : (9223372036854775807 < p.size + a0.size) = False := eq_false (Nat.not_lt.2 hs)
 go_enter Tryd.func60, Tryd.ntmps60
 go_wp2_with (go_at_call 83; refine (pleachref01_Put.calls (a0.size : Int) p _ HP.out).mono ?_; rintro e w1 ⟨rfl, hb⟩)
 go_ret
 exact ⟨rfl, hb⟩
theorem pleachref04_PutText.calls (a0 : ByteArray) (r : ByteArray) (w : World) (h : pleachref04_PutText.f a0 = some r) :
    Calls Tryd.prog 60 #[.string a0] w fun e w' => e = .returned (.string r) ∧ Below w.heap.size w w' := by
 unfold pleachref04_PutText.f at h
 split at h
 ·rename_i hh
  obtain rfl := Option.some.inj h
  have hl := M.vb_le a0.size (by omega)
  refine pleachref04_PutText.go a0 _ w hh ?_ (by rw [M.size_sb]; omega)
  unfold pleachref01_Put.f
  rw [if_pos ⟨by omega, by omega⟩, Int.toNat_natCast]
 ·cases h
end Go.Proofs.YtopllfdjlbnmfaaDoor.ETreeChildren
