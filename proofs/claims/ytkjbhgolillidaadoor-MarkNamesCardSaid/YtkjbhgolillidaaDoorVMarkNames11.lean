-- Laid by this session's own program (wip/tools/fold.py): this session's texts, cut to what the claim names and put together; Lean checks it.
import Derived.Test.YtkjbhgolillidaaDoorVMarkNames1
import Derived.Test.YtkjbhgolillidaaDoorXMarkNames1
namespace Go.Proofs.YtkjbhgolillidaaDoor.EMarkNames
open Go.RowKit Go.Proofs.YtkjbhgolillidaaDoorW.PrintWords Go.Proofs.YtkjbhgolillidaaDoorW.PrintLast Go.Proofs.YtkjbhgolillidaaDoorW.PrintMore
attribute [local go_sem] M.run_leq M.run_gtr M.run_geq max2_int min2_int max_two min_two max_three min_three max_four min_four
set_option linter.unusedVariables false
set_option linter.unusedSimpArgs false
mutual
def pleachref19_Wrong.j0 : Nat → Bool → Int → List (S43) → List Int → Option (Int)
  | 0, _, _, _, _ => none
  | k + 1, x20, zaa, zab, zac => if x20 = true then (some 2) else (if zaa = 0 then (if (zac.length : Int) > 0 then (pleachref19_Wrong.j1 k true zaa zab zac) else (if zaa > 0 then (if (zab.length : Int) = 0 then (pleachref19_Wrong.j1 k true zaa zab zac) else (pleachref19_Wrong.j1 k ((zac.length : Int) != (zab.length : Int)) zaa zab zac)) else (pleachref19_Wrong.j1 k false zaa zab zac))) else (if zaa > 0 then (if (zab.length : Int) = 0 then (pleachref19_Wrong.j1 k true zaa zab zac) else (pleachref19_Wrong.j1 k ((zac.length : Int) != (zab.length : Int)) zaa zab zac)) else (pleachref19_Wrong.j1 k false zaa zab zac)))
def pleachref19_Wrong.j1 : Nat → Bool → Int → List (S43) → List Int → Option (Int)
  | 0, _, _, _, _ => none
  | k + 1, x49, zaa, zab, zac => if x49 = true then (some 2) else (pleachref19_Wrong.l0 k 0 zaa zab zac)
def pleachref19_Wrong.l0 : Nat → Int → Int → List (S43) → List Int → Option (Int)
  | 0, _, _, _, _ => none
  | k + 1, x3, zaa, zab, zac => if x3 < (zac.length : Int) then (if 0 ≤ x3 then (if (rd zac x3) < 1 then (some 2) else (if (rd zac x3) > 2147483648 then (some 2) else (pleachref19_Wrong.l0 k (wrap64 (x3 + 1)) zaa zab zac))) else (none)) else (pleachref19_Wrong.l1 k 0 zaa zab zac)
def pleachref19_Wrong.l1 : Nat → Int → Int → List (S43) → List Int → Option (Int)
  | 0, _, _, _, _ => none
  | k + 1, x4, zaa, zab, zac => if x4 < (zab.length : Int) then (if 0 ≤ x4 then (if (((rd_T43 zab x4).f0).size : Int) < 1 then (pleachref19_Wrong.j4 k x4 true zaa zab zac) else (if (((rd_T43 zab x4).f0).size : Int) > 64 then (pleachref19_Wrong.j4 k x4 true zaa zab zac) else (if zaa = 0 then (if (((rd_T43 zab x4).f1).size : Int) > 2048 then (pleachref19_Wrong.j4 k x4 true zaa zab zac) else (if zaa > 0 then (pleachref19_Wrong.j4 k x4 ((((rd_T43 zab x4).f1).size : Int) != 32) zaa zab zac) else (pleachref19_Wrong.j4 k x4 false zaa zab zac))) else (if zaa > 0 then (pleachref19_Wrong.j4 k x4 ((((rd_T43 zab x4).f1).size : Int) != 32) zaa zab zac) else (pleachref19_Wrong.j4 k x4 false zaa zab zac))))) else (none)) else (some 0)
def pleachref19_Wrong.j4 : Nat → Int → Bool → Int → List (S43) → List Int → Option (Int)
  | 0, _, _, _, _, _ => none
  | k + 1, x4, x115, zaa, zab, zac => if x115 = true then (some 2) else (if x4 > 0 then (if 0 ≤ x4 then (if x4 < (zab.length : Int) then (if 0 ≤ (wrap64 (x4 - 1)) then (if (wrap64 (x4 - 1)) < (zab.length : Int) then (if ((Op.bytesLess (((rd_T43 zab (wrap64 (x4 - 1))).f0).toList) (((rd_T43 zab x4).f0).toList)) = true) then (pleachref19_Wrong.l1 k (wrap64 (x4 + 1)) zaa zab zac) else (some 4)) else (none)) else (none)) else (none)) else (none)) else (pleachref19_Wrong.l1 k (wrap64 (x4 + 1)) zaa zab zac))
end
def pleachref19_Wrong.f (k : Nat) (a0_0 : Int) (l0_1 : List (S43)) (l0_2 : List Int) : Option (Int) := if a0_0 < 0 then (pleachref19_Wrong.j0 k true a0_0 l0_1 l0_2) else (if a0_0 > 40 then (pleachref19_Wrong.j0 k true a0_0 l0_1 l0_2) else (pleachref19_Wrong.j0 k (decide ((l0_1.length : Int) > 8)) a0_0 l0_1 l0_2))
theorem pleachref19_Wrong.mono_l : ∀ k, (∀ y0 y1 y2 y3, LeO (pleachref19_Wrong.j0 k y0 y1 y2 y3) (pleachref19_Wrong.j0 (k + 1) y0 y1 y2 y3)) ∧ (∀ y0 y1 y2 y3, LeO (pleachref19_Wrong.j1 k y0 y1 y2 y3) (pleachref19_Wrong.j1 (k + 1) y0 y1 y2 y3)) ∧ (∀ y0 y1 y2 y3, LeO (pleachref19_Wrong.l0 k y0 y1 y2 y3) (pleachref19_Wrong.l0 (k + 1) y0 y1 y2 y3)) ∧ (∀ y0 y1 y2 y3, LeO (pleachref19_Wrong.l1 k y0 y1 y2 y3) (pleachref19_Wrong.l1 (k + 1) y0 y1 y2 y3)) ∧ (∀ y0 y1 y2 y3 y4, LeO (pleachref19_Wrong.j4 k y0 y1 y2 y3 y4) (pleachref19_Wrong.j4 (k + 1) y0 y1 y2 y3 y4))
  | 0 => ⟨fun _ _ _ _ r h => by simp [pleachref19_Wrong.j0] at h, fun _ _ _ _ r h => by simp [pleachref19_Wrong.j1] at h, fun _ _ _ _ r h => by simp [pleachref19_Wrong.l0] at h, fun _ _ _ _ r h => by simp [pleachref19_Wrong.l1] at h, fun _ _ _ _ _ r h => by simp [pleachref19_Wrong.j4] at h⟩
  | k + 1 => by
    obtain ⟨ih0, ih1, ih2, ih3, ih4⟩ := pleachref19_Wrong.mono_l k
    refine ⟨?_, ?_, ?_, ?_, ?_⟩
    · intro y0 y1 y2 y3
      unfold pleachref19_Wrong.j0
      repeat' first
      | (with_reducible exact ih0 _ _ _ _)
      | (with_reducible exact ih1 _ _ _ _)
      | (with_reducible exact ih2 _ _ _ _)
      | (with_reducible exact ih3 _ _ _ _)
      | (with_reducible exact ih4 _ _ _ _ _)
      | (with_reducible exact LeO.refl _)
      | (with_reducible exact LeO.none _)
      | (with_reducible refine LeO.ite ?_ ?_)
      | (with_reducible refine LeO.bind ?_ (fun _ => ?_))
      | exact ih0 _ _ _ _
      | exact ih1 _ _ _ _
      | exact ih2 _ _ _ _
      | exact ih3 _ _ _ _
      | exact ih4 _ _ _ _ _
      | exact LeO.none _
      | refine LeO.ite ?_ ?_
      | refine LeO.bind ?_ (fun _ => ?_)
    · intro y0 y1 y2 y3
      unfold pleachref19_Wrong.j1
      repeat' first
      | (with_reducible exact ih0 _ _ _ _)
      | (with_reducible exact ih1 _ _ _ _)
      | (with_reducible exact ih2 _ _ _ _)
      | (with_reducible exact ih3 _ _ _ _)
      | (with_reducible exact ih4 _ _ _ _ _)
      | (with_reducible exact LeO.refl _)
      | (with_reducible exact LeO.none _)
      | (with_reducible refine LeO.ite ?_ ?_)
      | (with_reducible refine LeO.bind ?_ (fun _ => ?_))
      | exact ih0 _ _ _ _
      | exact ih1 _ _ _ _
      | exact ih2 _ _ _ _
      | exact ih3 _ _ _ _
      | exact ih4 _ _ _ _ _
      | exact LeO.none _
      | refine LeO.ite ?_ ?_
      | refine LeO.bind ?_ (fun _ => ?_)
    · intro y0 y1 y2 y3
      unfold pleachref19_Wrong.l0
      repeat' first
      | (with_reducible exact ih0 _ _ _ _)
      | (with_reducible exact ih1 _ _ _ _)
      | (with_reducible exact ih2 _ _ _ _)
      | (with_reducible exact ih3 _ _ _ _)
      | (with_reducible exact ih4 _ _ _ _ _)
      | (with_reducible exact LeO.refl _)
      | (with_reducible exact LeO.none _)
      | (with_reducible refine LeO.ite ?_ ?_)
      | (with_reducible refine LeO.bind ?_ (fun _ => ?_))
      | exact ih0 _ _ _ _
      | exact ih1 _ _ _ _
      | exact ih2 _ _ _ _
      | exact ih3 _ _ _ _
      | exact ih4 _ _ _ _ _
      | exact LeO.none _
      | refine LeO.ite ?_ ?_
      | refine LeO.bind ?_ (fun _ => ?_)
    · intro y0 y1 y2 y3
      unfold pleachref19_Wrong.l1
      repeat' first
      | (with_reducible exact ih0 _ _ _ _)
      | (with_reducible exact ih1 _ _ _ _)
      | (with_reducible exact ih2 _ _ _ _)
      | (with_reducible exact ih3 _ _ _ _)
      | (with_reducible exact ih4 _ _ _ _ _)
      | (with_reducible exact LeO.refl _)
      | (with_reducible exact LeO.none _)
      | (with_reducible refine LeO.ite ?_ ?_)
      | (with_reducible refine LeO.bind ?_ (fun _ => ?_))
      | exact ih0 _ _ _ _
      | exact ih1 _ _ _ _
      | exact ih2 _ _ _ _
      | exact ih3 _ _ _ _
      | exact ih4 _ _ _ _ _
      | exact LeO.none _
      | refine LeO.ite ?_ ?_
      | refine LeO.bind ?_ (fun _ => ?_)
    · intro y0 y1 y2 y3 y4
      unfold pleachref19_Wrong.j4
      repeat' first
      | (with_reducible exact ih0 _ _ _ _)
      | (with_reducible exact ih1 _ _ _ _)
      | (with_reducible exact ih2 _ _ _ _)
      | (with_reducible exact ih3 _ _ _ _)
      | (with_reducible exact ih4 _ _ _ _ _)
      | (with_reducible exact LeO.refl _)
      | (with_reducible exact LeO.none _)
      | (with_reducible refine LeO.ite ?_ ?_)
      | (with_reducible refine LeO.bind ?_ (fun _ => ?_))
      | exact ih0 _ _ _ _
      | exact ih1 _ _ _ _
      | exact ih2 _ _ _ _
      | exact ih3 _ _ _ _
      | exact ih4 _ _ _ _ _
      | exact LeO.none _
      | refine LeO.ite ?_ ?_
      | refine LeO.bind ?_ (fun _ => ?_)
theorem pleachref19_Wrong.mono : ∀ a0 a1 a2 k, LeO (pleachref19_Wrong.f k a0 a1 a2) (pleachref19_Wrong.f (k + 1) a0 a1 a2) := by
  intro a0 a1 a2 k
  obtain ⟨ih0, ih1, ih2, ih3, ih4⟩ := pleachref19_Wrong.mono_l k
  unfold pleachref19_Wrong.f
  repeat' first
      | (with_reducible exact ih0 _ _ _ _)
      | (with_reducible exact ih1 _ _ _ _)
      | (with_reducible exact ih2 _ _ _ _)
      | (with_reducible exact ih3 _ _ _ _)
      | (with_reducible exact ih4 _ _ _ _ _)
      | (with_reducible exact LeO.refl _)
      | (with_reducible exact LeO.none _)
      | (with_reducible refine LeO.ite ?_ ?_)
      | (with_reducible refine LeO.bind ?_ (fun _ => ?_))
      | exact ih0 _ _ _ _
      | exact ih1 _ _ _ _
      | exact ih2 _ _ _ _
      | exact ih3 _ _ _ _
      | exact ih4 _ _ _ _ _
      | exact LeO.none _
      | refine LeO.ite ?_ ?_
      | refine LeO.bind ?_ (fun _ => ?_)
set_option maxHeartbeats 8000000 in
set_option maxRecDepth 100000 in
theorem pleachref19_Wrong.calls (k : Nat) (a0_0 : Int) (A0_1 : Option Addr) (c0_1 : Nat) (l0_1 : List (S43)) (A0_2 : Option Addr) (c0_2 : Nat) (l0_2 : List Int) (r : Int) (w : World) (hr0_1 : Kd.C k43 w A0_1 l0_1.length l0_1) (hc0_1 : l0_1.length ≤ c0_1) (hr0_2 : Kd.C (Kd.int .i64) w A0_2 l0_2.length l0_2) (hc0_2 : l0_2.length ≤ c0_2) (h : pleachref19_Wrong.f k a0_0 l0_1 l0_2 = some r) :
    Calls Tryd.prog 52 #[.agg #[.int .i64 a0_0, .slice A0_1 l0_1.length c0_1, .slice A0_2 l0_2.length c0_2]] w fun e w' => e = .returned (.int .i64 r) ∧ Below w.heap.size w w' := by
 have hu39 := Tryd.underlying39
 have HR0_1 := Aside0.mk hr0_1
 have HC0_1 := Aside0.mk hc0_1
 clear hr0_1 hc0_1
 have HR0_2 := Aside0.mk hr0_2
 have HC0_2 := Aside0.mk hc0_2
 clear hr0_2 hc0_2
 have HB := Aside0.mk (Below.refl w.heap.size w)
 have H : (if a0_0 < 0 then (pleachref19_Wrong.j0 k true a0_0 l0_1 l0_2) else (if a0_0 > 40 then (pleachref19_Wrong.j0 k true a0_0 l0_1 l0_2) else (pleachref19_Wrong.j0 k (decide ((l0_1.length : Int) > 8)) a0_0 l0_1 l0_2))) = some r := h
 clear h
 have HC2 := Aside0.mk H
 clear H
 go_enter Tryd.func52, Tryd.ntmps52
 go_upto_region 1 with (first | ((with_reducible refine gate_dst (N := 1) rfl ?_); (try (refine gate_guard (by rfl) ?_; dsimp only)); refine M.bx 1 39 (#[.int .i64 a0_0, .slice A0_1 l0_1.length c0_1, .slice A0_2 l0_2.length c0_2]) ?_; intro zad hg w3 hbox hb; have zae := Aside0.mk (hbox); have zaf := M.upG HB hg; have zag := M.upG HB hg; replace HB := M.upS HB hb; clear hb hbox hg))
 repeat (go_quiet (first | ((with_reducible refine gate_dst (N := 1) rfl ?_); (try (refine gate_guard (by rfl) ?_; dsimp only)); refine M.bx 1 39 (#[.int .i64 a0_0, .slice A0_1 l0_1.length c0_1, .slice A0_2 l0_2.length c0_2]) ?_; intro zad hg w3 hbox hb; have zae := Aside0.mk (hbox); have zaf := M.upG HB hg; have zag := M.upG HB hg; replace HB := M.upS HB hb; clear hb hbox hg)); go_upto_region 1 with (first | ((with_reducible refine gate_dst (N := 1) rfl ?_); (try (refine gate_guard (by rfl) ?_; dsimp only)); refine M.bx 1 39 (#[.int .i64 a0_0, .slice A0_1 l0_1.length c0_1, .slice A0_2 l0_2.length c0_2]) ?_; intro zad hg w3 hbox hb; have zae := Aside0.mk (hbox); have zaf := M.upG HB hg; have zag := M.upG HB hg; replace HB := M.upS HB hb; clear hb hbox hg)))
 (try simp only [Act.put, List.setIfInBounds_toArray, List.set_cons_zero, List.set_cons_succ])
 go_cut [20] (fun v20 wc => ∃ (kq : Nat) (x20_1 : Bool), v20 = .bool x20_1 ∧ Aside0 (pleachref19_Wrong.j0 kq x20_1 a0_0 l0_1 l0_2 = some r) ∧ Aside0 (kq ≤ k) ∧ Aside0 (wc.heap[zad]? = some (.cells #[.int .i64 a0_0, (.slice A0_1 l0_1.length c0_1), (.slice A0_2 l0_2.length c0_2)] 39 (0, 0))) ∧ Aside0 (Below w.heap.size w wc))
 case first =>
  have H := HC2.out
  clear HC2
  by_cases c4 : a0_0 < 0
  ·rw [if_pos c4] at H
   have c4b0 := decide_eq_true c4
   clear c4
   (first | rw [c4b0] | (simp only [i64_w, i32_w]; rw [c4b0]) | skip)
   have H' := Aside0.mk H
   clear H
   obtain ⟨zah, zai, zaj⟩ := M.bc3 (w := w3) (a := .int .i64 a0_0) (b := .slice A0_1 l0_1.length c0_1) (c := .slice A0_2 l0_2.length c0_2) zae.out
   obtain ⟨zak, zal, zam⟩ := M.bf3 zae
   go_wp2
   repeat (go_quiet (fail); try go_wp2)
   go_meet
   case rel => exact ⟨_, (true), M.eqv, H', ⟨by first | omega | exact Nat.le_refl _⟩, ⟨M.bk zae⟩, ⟨M.up HB⟩⟩
  ·rw [if_neg c4] at H
   have c4b0 := decide_eq_false c4
   clear c4
   (first | rw [c4b0] | (simp only [i64_w, i32_w]; rw [c4b0]) | skip)
   by_cases c6 : a0_0 > 40
   ·rw [if_pos c6] at H
    have c6b0 := decide_eq_true c6
    clear c6
    have H' := Aside0.mk H
    clear H
    obtain ⟨zan, zao, zap⟩ := M.bc3 (w := w3) (a := .int .i64 a0_0) (b := .slice A0_1 l0_1.length c0_1) (c := .slice A0_2 l0_2.length c0_2) zae.out
    obtain ⟨zaq, zar, zas⟩ := M.bf3 zae
    go_wp2
    repeat (go_quiet (fail); try go_wp2)
    go_meet
    case rel => exact ⟨_, (true), M.eqv, H', ⟨by first | omega | exact Nat.le_refl _⟩, ⟨M.bk zae⟩, ⟨M.up HB⟩⟩
   ·rw [if_neg c6] at H
    have c6b0 := decide_eq_false c6
    clear c6
    have H' := Aside0.mk H
    clear H
    obtain ⟨zat, zau, zav⟩ := M.bc3 (w := w3) (a := .int .i64 a0_0) (b := .slice A0_1 l0_1.length c0_1) (c := .slice A0_2 l0_2.length c0_2) zae.out
    obtain ⟨zaw, zax, zay⟩ := M.bf3 zae
    go_wp2
    repeat (go_quiet (fail); try go_wp2)
    go_meet
    case rel => exact ⟨_, (decide ((l0_1.length : Int) > 8)), M.eqv, H', ⟨by first | omega | exact Nat.le_refl _⟩, ⟨M.bk zae⟩, ⟨M.up HB⟩⟩
 case rest =>
  clear HC2
  (try clear p2); (try clear c4); (try clear c4b0); (try clear c5); (try clear c6); (try clear c6b0); (try clear zah); (try clear zai); (try clear zaj); (try clear zan); (try clear zao); (try clear zap); (try clear zat); (try clear zau); (try clear zav); (try clear zak); (try clear zal); (try clear zam); (try clear zaq); (try clear zar); (try clear zas); (try clear zaw); (try clear zax); (try clear zay)
  obtain ⟨kq, x20_1, rfl, HA, HJ1, zae, HB⟩ := hcut
  cases kq with
  | zero => exact absurd HA.out (by simp [pleachref19_Wrong.j0])
  | succ kj1 =>
   have H := HA.out
   clear HA
   simp only [pleachref19_Wrong.j0] at H
   by_cases c9 : x20_1 = true
   ·subst c9
    have H1 : (some 2) = some r := by rw [if_pos rfl] at H; exact H
    clear H
    have H := H1
    clear H1
    obtain rfl := Option.some.inj H
    go_wp2
    repeat (go_quiet (fail); try go_wp2)
    go_ret
    exact M.fin (M.up HB)
   ·replace c9 := Bool.eq_false_iff.mpr c9
    subst c9
    have H1 : (if a0_0 = 0 then (if (l0_2.length : Int) > 0 then (pleachref19_Wrong.j1 kj1 true a0_0 l0_1 l0_2) else (if a0_0 > 0 then (if (l0_1.length : Int) = 0 then (pleachref19_Wrong.j1 kj1 true a0_0 l0_1 l0_2) else (pleachref19_Wrong.j1 kj1 ((l0_2.length : Int) != (l0_1.length : Int)) a0_0 l0_1 l0_2)) else (pleachref19_Wrong.j1 kj1 false a0_0 l0_1 l0_2))) else (if a0_0 > 0 then (if (l0_1.length : Int) = 0 then (pleachref19_Wrong.j1 kj1 true a0_0 l0_1 l0_2) else (pleachref19_Wrong.j1 kj1 ((l0_2.length : Int) != (l0_1.length : Int)) a0_0 l0_1 l0_2)) else (pleachref19_Wrong.j1 kj1 false a0_0 l0_1 l0_2))) = some r := by rw [if_neg (show ¬ (false = true) by decide)] at H; exact H
    clear H
    have H := H1
    clear H1
    have HC10 := Aside0.mk H
    clear H
    go_upto_region 3 with (fail)
    repeat (go_quiet (fail); go_upto_region 3 with (fail))
    go_cut [49] (fun v49 wc => ∃ (kq : Nat) (x49_9 : Bool), v49 = .bool x49_9 ∧ Aside0 (pleachref19_Wrong.j1 kq x49_9 a0_0 l0_1 l0_2 = some r) ∧ Aside0 (kq ≤ kj1) ∧ Aside0 (wc.heap[zad]? = some (.cells #[.int .i64 a0_0, (.slice A0_1 l0_1.length c0_1), (.slice A0_2 l0_2.length c0_2)] 39 (0, 0))) ∧ Aside0 (Below w.heap.size w wc))
    case first =>
     have H := HC10.out
     clear HC10
     by_cases c11 : a0_0 = 0
     ·rw [if_pos c11] at H
      have c11b0 : (a0_0 == 0) = true := beq_iff_eq.mpr c11
      have c11b1 : (a0_0 != 0) = false := bne_eq_false_iff_eq.mpr c11
      clear c11
      (first | rw [c11b0] | (simp only [i64_w, i32_w]; rw [c11b0]) | skip)
      by_cases c12 : (l0_2.length : Int) > 0
      ·rw [if_pos c12] at H
       have c12b0 := decide_eq_true c12
       have c12b1 : decide (0 < l0_2.length) = true := decide_eq_true (by omega)
       clear c12
       have H' := Aside0.mk H
       clear H
       obtain ⟨zaz, zaA, zaB⟩ := M.bc3 (w := wc) (a := .int .i64 a0_0) (b := .slice A0_1 l0_1.length c0_1) (c := .slice A0_2 l0_2.length c0_2) zae.out
       obtain ⟨zaC, zaD, zaE⟩ := M.bf3 zae
       go_wp2
       repeat (go_quiet (fail); try go_wp2)
       go_meet
       case rel => exact ⟨_, (true), M.eqv, H', ⟨by have := HJ1.out; first | omega | exact Nat.le_refl _⟩, ⟨M.bk zae⟩, ⟨M.up HB⟩⟩
      ·rw [if_neg c12] at H
       have c12b0 := decide_eq_false c12
       have c12b1 : decide (0 < l0_2.length) = false := decide_eq_false (by omega)
       clear c12
       by_cases c14 : a0_0 > 0
       ·rw [if_pos c14] at H
        have c14b0 := decide_eq_true c14
        clear c14
        by_cases c15 : (l0_1.length : Int) = 0
        ·rw [if_pos c15] at H
         have c15b0 : ((l0_1.length : Int) == 0) = true := beq_iff_eq.mpr c15
         have c15b1 : ((l0_1.length : Int) != 0) = false := bne_eq_false_iff_eq.mpr c15
         clear c15
         have H' := Aside0.mk H
         clear H
         obtain ⟨zaF, zaG, zaH⟩ := M.bc3 (w := wc) (a := .int .i64 a0_0) (b := .slice A0_1 l0_1.length c0_1) (c := .slice A0_2 l0_2.length c0_2) zae.out
         obtain ⟨zaI, zaJ, zaK⟩ := M.bf3 zae
         go_wp2
         repeat (go_quiet (fail); try go_wp2)
         go_meet
         case rel => exact ⟨_, (true), M.eqv, H', ⟨by have := HJ1.out; first | omega | exact Nat.le_refl _⟩, ⟨M.bk zae⟩, ⟨M.up HB⟩⟩
        ·rw [if_neg c15] at H
         have c15b0 : ((l0_1.length : Int) == 0) = false := beq_eq_false_iff_ne.mpr c15
         have c15b1 : ((l0_1.length : Int) != 0) = true := bne_iff_ne.mpr c15
         have c15b2 : ¬ (l0_1 = []) := fun h_ => c15 (by rw [h_]; rfl)
         have H' := Aside0.mk H
         clear H
         obtain ⟨zaL, zaM, zaN⟩ := M.bc3 (w := wc) (a := .int .i64 a0_0) (b := .slice A0_1 l0_1.length c0_1) (c := .slice A0_2 l0_2.length c0_2) zae.out
         obtain ⟨zaO, zaP, zaQ⟩ := M.bf3 zae
         go_wp2
         repeat (go_quiet (fail); try go_wp2)
         go_meet
         case rel => exact ⟨_, (((l0_2.length : Int) != (l0_1.length : Int))), M.eqv, H', ⟨by have := HJ1.out; first | omega | exact Nat.le_refl _⟩, ⟨M.bk zae⟩, ⟨M.up HB⟩⟩
       ·rw [if_neg c14] at H
        have c14b0 := decide_eq_false c14
        clear c14
        have H' := Aside0.mk H
        clear H
        obtain ⟨zaR, zaS, zaT⟩ := M.bc3 (w := wc) (a := .int .i64 a0_0) (b := .slice A0_1 l0_1.length c0_1) (c := .slice A0_2 l0_2.length c0_2) zae.out
        obtain ⟨zaU, zaV, zaW⟩ := M.bf3 zae
        go_wp2
        repeat (go_quiet (fail); try go_wp2)
        go_meet
        case rel => exact ⟨_, (false), M.eqv, H', ⟨by have := HJ1.out; first | omega | exact Nat.le_refl _⟩, ⟨M.bk zae⟩, ⟨M.up HB⟩⟩
     ·rw [if_neg c11] at H
      have c11b0 : (a0_0 == 0) = false := beq_eq_false_iff_ne.mpr c11
      have c11b1 : (a0_0 != 0) = true := bne_iff_ne.mpr c11
      (first | rw [c11b0] | (simp only [i64_w, i32_w]; rw [c11b0]) | skip)
      by_cases c19 : a0_0 > 0
      ·rw [if_pos c19] at H
       have c19b0 := decide_eq_true c19
       clear c19
       by_cases c20 : (l0_1.length : Int) = 0
       ·rw [if_pos c20] at H
        have c20b0 : ((l0_1.length : Int) == 0) = true := beq_iff_eq.mpr c20
        have c20b1 : ((l0_1.length : Int) != 0) = false := bne_eq_false_iff_eq.mpr c20
        clear c20
        have H' := Aside0.mk H
        clear H
        obtain ⟨zaX, zaY, zaZ⟩ := M.bc3 (w := wc) (a := .int .i64 a0_0) (b := .slice A0_1 l0_1.length c0_1) (c := .slice A0_2 l0_2.length c0_2) zae.out
        obtain ⟨za0, za1, za2⟩ := M.bf3 zae
        go_wp2
        repeat (go_quiet (fail); try go_wp2)
        go_meet
        case rel => exact ⟨_, (true), M.eqv, H', ⟨by have := HJ1.out; first | omega | exact Nat.le_refl _⟩, ⟨M.bk zae⟩, ⟨M.up HB⟩⟩
       ·rw [if_neg c20] at H
        have c20b0 : ((l0_1.length : Int) == 0) = false := beq_eq_false_iff_ne.mpr c20
        have c20b1 : ((l0_1.length : Int) != 0) = true := bne_iff_ne.mpr c20
        have c20b2 : ¬ (l0_1 = []) := fun h_ => c20 (by rw [h_]; rfl)
        have H' := Aside0.mk H
        clear H
        obtain ⟨za3, za4, za5⟩ := M.bc3 (w := wc) (a := .int .i64 a0_0) (b := .slice A0_1 l0_1.length c0_1) (c := .slice A0_2 l0_2.length c0_2) zae.out
        obtain ⟨za6, za7, za8⟩ := M.bf3 zae
        go_wp2
        repeat (go_quiet (fail); try go_wp2)
        go_meet
        case rel => exact ⟨_, (((l0_2.length : Int) != (l0_1.length : Int))), M.eqv, H', ⟨by have := HJ1.out; first | omega | exact Nat.le_refl _⟩, ⟨M.bk zae⟩, ⟨M.up HB⟩⟩
      ·rw [if_neg c19] at H
       have c19b0 := decide_eq_false c19
       clear c19
       have H' := Aside0.mk H
       clear H
       obtain ⟨za9, zba, zbb⟩ := M.bc3 (w := wc) (a := .int .i64 a0_0) (b := .slice A0_1 l0_1.length c0_1) (c := .slice A0_2 l0_2.length c0_2) zae.out
       obtain ⟨zbc, zbd, zbe⟩ := M.bf3 zae
       go_wp2
       repeat (go_quiet (fail); try go_wp2)
       go_meet
       case rel => exact ⟨_, (false), M.eqv, H', ⟨by have := HJ1.out; first | omega | exact Nat.le_refl _⟩, ⟨M.bk zae⟩, ⟨M.up HB⟩⟩
    case rest =>
     clear HC10
     (try clear c1); (try clear c2); (try clear p2); (try clear c4); (try clear c4b0); (try clear c5); (try clear c6); (try clear c6b0); (try clear c9); (try clear c11); (try clear c11b0); (try clear c11b1); (try clear c12); (try clear c12b0); (try clear c12b1); (try clear c14); (try clear c14b0); (try clear c15); (try clear c15b0); (try clear c15b1); (try clear c15b2); (try clear c19); (try clear c19b0); (try clear c20); (try clear c20b0); (try clear c20b1); (try clear c20b2); (try clear zaz); (try clear zaA); (try clear zaB); (try clear zaF); (try clear zaG); (try clear zaH); (try clear zaL); (try clear zaM); (try clear zaN); (try clear zaR); (try clear zaS); (try clear zaT); (try clear zaX); (try clear zaY); (try clear zaZ); (try clear za3); (try clear za4); (try clear za5); (try clear za9); (try clear zba); (try clear zbb); (try clear zah); (try clear zai); (try clear zaj); (try clear zan); (try clear zao); (try clear zap); (try clear zat); (try clear zau); (try clear zav); (try clear zaC); (try clear zaD); (try clear zaE); (try clear zaI); (try clear zaJ); (try clear zaK); (try clear zaO); (try clear zaP); (try clear zaQ); (try clear zaU); (try clear zaV); (try clear zaW); (try clear za0); (try clear za1); (try clear za2); (try clear za6); (try clear za7); (try clear za8); (try clear zbc); (try clear zbd); (try clear zbe); (try clear zak); (try clear zal); (try clear zam); (try clear zaq); (try clear zar); (try clear zas); (try clear zaw); (try clear zax); (try clear zay); (try clear p2)
     obtain ⟨kq, x49_9, rfl, HA, HJ9, zae, HB⟩ := hcut
     cases kq with
     | zero => exact absurd HA.out (by simp [pleachref19_Wrong.j1])
     | succ kj9 =>
      have H := HA.out
      clear HA
      simp only [pleachref19_Wrong.j1] at H
      by_cases c24 : x49_9 = true
      ·subst c24
       have H1 : (some 2) = some r := by rw [if_pos rfl] at H; exact H
       clear H
       have H := H1
       clear H1
       obtain rfl := Option.some.inj H
       go_wp2
       repeat (go_quiet (fail); try go_wp2)
       go_ret
       exact M.fin (M.up HB)
      ·replace c24 := Bool.eq_false_iff.mpr c24
       subst c24
       have H1 : (pleachref19_Wrong.l0 kj9 0 a0_0 l0_1 l0_2) = some r := by rw [if_neg (show ¬ (false = true) by decide)] at H; exact H
       clear H
       have H := H1
       clear H1
       have H' := Aside0.mk H
       clear H
       go_wp2
       repeat (go_quiet (fail); try go_wp2)
       go_loopg [3] kj9 (fun kq v3 w' => ∃ (x3_3 : Int), v3 = .int .i64 x3_3 ∧ Aside0 (pleachref19_Wrong.l0 kq x3_3 a0_0 l0_1 l0_2 = some r) ∧ Aside0 (kq ≤ kj9) ∧ Aside0 (w'.heap[zad]? = some (.cells #[.int .i64 a0_0, (.slice A0_1 l0_1.length c0_1), (.slice A0_2 l0_2.length c0_2)] 39 (0, 0))) ∧ Aside0 (Below w.heap.size w w'))
       case atStart => exact ⟨(0), M.eqv, H', ⟨Nat.le_refl _⟩, ⟨M.bk zae⟩, ⟨M.up HB⟩⟩
       case round =>
        clear H'
        (try clear c1); (try clear c2); (try clear p2); (try clear c4); (try clear c4b0); (try clear c5); (try clear c6); (try clear c6b0); (try clear c9); (try clear c11); (try clear c11b0); (try clear c11b1); (try clear c12); (try clear c12b0); (try clear c12b1); (try clear c14); (try clear c14b0); (try clear c15); (try clear c15b0); (try clear c15b1); (try clear c15b2); (try clear c19); (try clear c19b0); (try clear c20); (try clear c20b0); (try clear c20b1); (try clear c20b2); (try clear c24); (try clear zaz); (try clear zaA); (try clear zaB); (try clear zaF); (try clear zaG); (try clear zaH); (try clear zaL); (try clear zaM); (try clear zaN); (try clear zaR); (try clear zaS); (try clear zaT); (try clear zaX); (try clear zaY); (try clear zaZ); (try clear za3); (try clear za4); (try clear za5); (try clear za9); (try clear zba); (try clear zbb); (try clear zah); (try clear zai); (try clear zaj); (try clear zan); (try clear zao); (try clear zap); (try clear zat); (try clear zau); (try clear zav); (try clear zaC); (try clear zaD); (try clear zaE); (try clear zaI); (try clear zaJ); (try clear zaK); (try clear zaO); (try clear zaP); (try clear zaQ); (try clear zaU); (try clear zaV); (try clear zaW); (try clear za0); (try clear za1); (try clear za2); (try clear za6); (try clear za7); (try clear za8); (try clear zbc); (try clear zbd); (try clear zbe); (try clear zak); (try clear zal); (try clear zam); (try clear zaq); (try clear zar); (try clear zas); (try clear zaw); (try clear zax); (try clear zay); (try clear p2)
        obtain ⟨x3_3, rfl, HA, HK3, zae, HB⟩ := hrel
        cases gk with
        | zero => exact absurd HA.out (by simp [pleachref19_Wrong.l0])
        | succ k3 =>
         have H := HA.out
         clear HA
         simp only [pleachref19_Wrong.l0] at H
         by_cases c25 : x3_3 < (l0_2.length : Int)
         ·rw [if_pos c25] at H
          have c25b0 := decide_eq_true c25
          clear c25
          by_cases c26 : 0 ≤ x3_3
          ·rw [if_pos c26] at H
           have c26b0 := decide_eq_true c26
           clear c26
           by_cases c27 : (rd l0_2 x3_3) < 1
           ·rw [if_pos c27] at H
            have c27b0 := decide_eq_true c27
            clear c27
            obtain rfl := Option.some.inj H
            obtain ⟨zbf, zbg, zbh⟩ := M.bc3 (w := wr) (a := .int .i64 a0_0) (b := .slice A0_1 l0_1.length c0_1) (c := .slice A0_2 l0_2.length c0_2) zae.out
            obtain ⟨zbi, zbj, zbk⟩ := M.bf3 zae
            have p338 : 0 ≤ (x3_3 : Int) := M.dt
            have q338 : x3_3 < (l0_2.length : Int) := M.dt
            obtain ⟨ad338, e338, hx338_0⟩ := Kd.at_int HR0_2.out x3_3 p338 q338
            cases e338
            replace hx338_0 := M.hc HB hx338_0
            replace p338 := eq_true p338
            replace q338 := eq_true q338
            go_wp2
            repeat (go_quiet (fail); try go_wp2)
            go_ret
            exact M.fin (M.up HB)
           ·rw [if_neg c27] at H
            have c27b0 := decide_eq_false c27
            clear c27
            by_cases c29 : (rd l0_2 x3_3) > 2147483648
            ·rw [if_pos c29] at H
             have c29b0 := decide_eq_true c29
             clear c29
             obtain rfl := Option.some.inj H
             obtain ⟨zbl, zbm, zbn⟩ := M.bc3 (w := wr) (a := .int .i64 a0_0) (b := .slice A0_1 l0_1.length c0_1) (c := .slice A0_2 l0_2.length c0_2) zae.out
             obtain ⟨zbo, zbp, zbq⟩ := M.bf3 zae
             have p338 : 0 ≤ (x3_3 : Int) := M.dt
             have q338 : x3_3 < (l0_2.length : Int) := M.dt
             obtain ⟨ad338, e338, hx338_0⟩ := Kd.at_int HR0_2.out x3_3 p338 q338
             cases e338
             replace hx338_0 := M.hc HB hx338_0
             replace p338 := eq_true p338
             replace q338 := eq_true q338
             have p339 : 0 ≤ (x3_3 : Int) := M.dt
             have q339 : x3_3 < (l0_2.length : Int) := M.dt
             obtain ⟨ad339, e339, hx339_0⟩ := Kd.at_int HR0_2.out x3_3 p339 q339
             obtain rfl : ad338 = ad339 := (by injection e339)
             replace hx339_0 := M.hc HB hx339_0
             replace p339 := eq_true p339
             replace q339 := eq_true q339
             go_wp2
             repeat (go_quiet (fail); try go_wp2)
             go_ret
             exact M.fin (M.up HB)
            ·rw [if_neg c29] at H
             have c29b0 := decide_eq_false c29
             clear c29
             have H' := Aside0.mk H
             clear H
             obtain ⟨zbr, zbs, zbt⟩ := M.bc3 (w := wr) (a := .int .i64 a0_0) (b := .slice A0_1 l0_1.length c0_1) (c := .slice A0_2 l0_2.length c0_2) zae.out
             obtain ⟨zbu, zbv, zbw⟩ := M.bf3 zae
             have p338 : 0 ≤ (x3_3 : Int) := M.dt
             have q338 : x3_3 < (l0_2.length : Int) := M.dt
             obtain ⟨ad338, e338, hx338_0⟩ := Kd.at_int HR0_2.out x3_3 p338 q338
             cases e338
             replace hx338_0 := M.hc HB hx338_0
             replace p338 := eq_true p338
             replace q338 := eq_true q338
             have p339 : 0 ≤ (x3_3 : Int) := M.dt
             have q339 : x3_3 < (l0_2.length : Int) := M.dt
             obtain ⟨ad339, e339, hx339_0⟩ := Kd.at_int HR0_2.out x3_3 p339 q339
             obtain rfl : ad338 = ad339 := (by injection e339)
             replace hx339_0 := M.hc HB hx339_0
             replace p339 := eq_true p339
             replace q339 := eq_true q339
             go_wp2
             repeat (go_quiet (fail); try go_wp2)
             go_roundg k3
             case measure => have := HJ1.out; have := HJ9.out; have := HK3.out; omega
             case rel => exact ⟨(wrap64 (x3_3 + 1)), M.eqv, H', ⟨by have := HJ1.out; have := HJ9.out; have := HK3.out; omega⟩, ⟨M.bk zae⟩, ⟨M.up HB⟩⟩
          ·exact M.nf c26 H
         ·rw [if_neg c25] at H
          have c25b0 := decide_eq_false c25
          clear c25
          have H' := Aside0.mk H
          clear H
          obtain ⟨zbx, zby, zbz⟩ := M.bc3 (w := wr) (a := .int .i64 a0_0) (b := .slice A0_1 l0_1.length c0_1) (c := .slice A0_2 l0_2.length c0_2) zae.out
          obtain ⟨zbA, zbB, zbC⟩ := M.bf3 zae
          go_wp2
          repeat (go_quiet (fail); try go_wp2)
          go_loopg [4] k3 (fun kq v4 w' => ∃ (x4_4 : Int), v4 = .int .i64 x4_4 ∧ Aside0 (pleachref19_Wrong.l1 kq x4_4 a0_0 l0_1 l0_2 = some r) ∧ Aside0 (kq ≤ k3) ∧ Aside0 (w'.heap[zad]? = some (.cells #[.int .i64 a0_0, (.slice A0_1 l0_1.length c0_1), (.slice A0_2 l0_2.length c0_2)] 39 (0, 0))) ∧ Aside0 (Below w.heap.size w w'))
          case atStart => exact ⟨(0), M.eqv, H', ⟨Nat.le_refl _⟩, ⟨M.bk zae⟩, ⟨M.up HB⟩⟩
          case round =>
           clear H'
           (try clear c1); (try clear c2); (try clear p2); (try clear p3); (try clear q3); (try clear hx3); (try clear c4); (try clear c4b0); (try clear c5); (try clear c6); (try clear c6b0); (try clear p6); (try clear c9); (try clear c11); (try clear c11b0); (try clear c11b1); (try clear c12); (try clear c12b0); (try clear c12b1); (try clear c14); (try clear c14b0); (try clear c15); (try clear c15b0); (try clear c15b1); (try clear c15b2); (try clear c19); (try clear c19b0); (try clear c20); (try clear c20b0); (try clear c20b1); (try clear c20b2); (try clear c24); (try clear c25); (try clear c25b0); (try clear c26); (try clear c26b0); (try clear c27); (try clear c27b0); (try clear c29); (try clear c29b0); (try clear zaz); (try clear zaA); (try clear zaB); (try clear zaF); (try clear zaG); (try clear zaH); (try clear zaL); (try clear zaM); (try clear zaN); (try clear zaR); (try clear zaS); (try clear zaT); (try clear zaX); (try clear zaY); (try clear zaZ); (try clear za3); (try clear za4); (try clear za5); (try clear za9); (try clear zba); (try clear zbb); (try clear zbf); (try clear zbg); (try clear zbh); (try clear zbl); (try clear zbm); (try clear zbn); (try clear zbr); (try clear zbs); (try clear zbt); (try clear zbx); (try clear zby); (try clear zbz); (try clear zah); (try clear zai); (try clear zaj); (try clear zan); (try clear zao); (try clear zap); (try clear zat); (try clear zau); (try clear zav); (try clear zaC); (try clear zaD); (try clear zaE); (try clear zaI); (try clear zaJ); (try clear zaK); (try clear zaO); (try clear zaP); (try clear zaQ); (try clear zaU); (try clear zaV); (try clear zaW); (try clear za0); (try clear za1); (try clear za2); (try clear za6); (try clear za7); (try clear za8); (try clear zbc); (try clear zbd); (try clear zbe); (try clear zbi); (try clear zbj); (try clear zbk); (try clear zbo); (try clear zbp); (try clear zbq); (try clear zbu); (try clear zbv); (try clear zbw); (try clear zbA); (try clear zbB); (try clear zbC); (try clear zak); (try clear zal); (try clear zam); (try clear zaq); (try clear zar); (try clear zas); (try clear zaw); (try clear zax); (try clear zay); (try clear hx338_0); (try clear hx339_0); (try clear p2); (try clear p338); (try clear p339); (try clear q338); (try clear q339)
           obtain ⟨x4_4, rfl, HA, HK4, zae, HB⟩ := hrel
           cases gk with
           | zero => exact absurd HA.out (by simp [pleachref19_Wrong.l1])
           | succ k4 =>
            have H := HA.out
            clear HA
            simp only [pleachref19_Wrong.l1] at H
            by_cases c33 : x4_4 < (l0_1.length : Int)
            ·rw [if_pos c33] at H
             have c33b0 := decide_eq_true c33
             clear c33
             by_cases c34 : 0 ≤ x4_4
             ·rw [if_pos c34] at H
              have c34b0 := decide_eq_true c34
              clear c34
              have HC35 := Aside0.mk H
              clear H
              obtain ⟨zbD, zbE, zbF⟩ := M.bc3 (w := wr) (a := .int .i64 a0_0) (b := .slice A0_1 l0_1.length c0_1) (c := .slice A0_2 l0_2.length c0_2) zae.out
              obtain ⟨zbG, zbH, zbI⟩ := M.bf3 zae
              have p340 : 0 ≤ (x4_4 : Int) := M.dt
              have q340 : x4_4 < (l0_1.length : Int) := M.dt
              obtain ⟨ad340, e340, hx340_0, hx340_1⟩ := at_T43 HR0_1.out x4_4 p340 q340
              cases e340
              replace hx340_0 := M.hc HB hx340_0
              replace hx340_1 := M.hc HB hx340_1
              replace p340 := eq_true p340
              replace q340 := eq_true q340
              have p341 : 0 ≤ (x4_4 : Int) := M.dt
              have q341 : x4_4 < (l0_1.length : Int) := M.dt
              obtain ⟨ad341, e341, hx341_0, hx341_1⟩ := at_T43 HR0_1.out x4_4 p341 q341
              obtain rfl : ad340 = ad341 := (by injection e341)
              replace hx341_0 := M.hc HB hx341_0
              replace hx341_1 := M.hc HB hx341_1
              replace p341 := eq_true p341
              replace q341 := eq_true q341
              go_upto_region 14 with (fail)
              repeat (go_quiet (fail); go_upto_region 14 with (fail))
              go_cut [115] (fun v115 wc => ∃ (kq : Nat) (x115_34 : Bool), v115 = .bool x115_34 ∧ Aside0 (pleachref19_Wrong.j4 kq x4_4 x115_34 a0_0 l0_1 l0_2 = some r) ∧ Aside0 (kq ≤ k4) ∧ Aside0 (wc.heap[zad]? = some (.cells #[.int .i64 a0_0, (.slice (some ad340) l0_1.length c0_1), (.slice A0_2 l0_2.length c0_2)] 39 (0, 0))) ∧ Aside0 (Below w.heap.size w wc))
              case first =>
               have H := HC35.out
               clear HC35
               by_cases c37 : (((rd_T43 l0_1 x4_4).f0).size : Int) < 1
               ·rw [if_pos c37] at H
                have c37b0 := decide_eq_true c37
                have c37b1 : decide (((rd_T43 l0_1 x4_4).f0).size < 1) = true := decide_eq_true (by omega)
                clear c37
                (first | rw [c37b0] | (simp only [i64_w, i32_w]; rw [c37b0]) | skip)
                have H' := Aside0.mk H
                clear H
                go_wp2
                repeat (go_quiet (fail); try go_wp2)
                go_meet
                case rel => exact ⟨_, (true), M.eqv, H', ⟨by have := HJ1.out; have := HJ9.out; have := HK3.out; have := HK4.out; first | omega | exact Nat.le_refl _⟩, ⟨M.bk zae⟩, ⟨M.up HB⟩⟩
               ·rw [if_neg c37] at H
                have c37b0 := decide_eq_false c37
                have c37b1 : decide (((rd_T43 l0_1 x4_4).f0).size < 1) = false := decide_eq_false (by omega)
                clear c37
                (first | rw [c37b0] | (simp only [i64_w, i32_w]; rw [c37b0]) | skip)
                by_cases c38 : (((rd_T43 l0_1 x4_4).f0).size : Int) > 64
                ·rw [if_pos c38] at H
                 have c38b0 := decide_eq_true c38
                 have c38b1 : decide (64 < ((rd_T43 l0_1 x4_4).f0).size) = true := decide_eq_true (by omega)
                 clear c38
                 have H' := Aside0.mk H
                 clear H
                 go_wp2
                 repeat (go_quiet (fail); try go_wp2)
                 go_meet
                 case rel => exact ⟨_, (true), M.eqv, H', ⟨by have := HJ1.out; have := HJ9.out; have := HK3.out; have := HK4.out; first | omega | exact Nat.le_refl _⟩, ⟨M.bk zae⟩, ⟨M.up HB⟩⟩
                ·rw [if_neg c38] at H
                 have c38b0 := decide_eq_false c38
                 have c38b1 : decide (64 < ((rd_T43 l0_1 x4_4).f0).size) = false := decide_eq_false (by omega)
                 clear c38
                 by_cases c39 : a0_0 = 0
                 ·rw [if_pos c39] at H
                  have c39b0 : (a0_0 == 0) = true := beq_iff_eq.mpr c39
                  have c39b1 : (a0_0 != 0) = false := bne_eq_false_iff_eq.mpr c39
                  clear c39
                  by_cases c40 : (((rd_T43 l0_1 x4_4).f1).size : Int) > 2048
                  ·rw [if_pos c40] at H
                   have c40b0 := decide_eq_true c40
                   have c40b1 : decide (2048 < ((rd_T43 l0_1 x4_4).f1).size) = true := decide_eq_true (by omega)
                   clear c40
                   have H' := Aside0.mk H
                   clear H
                   obtain ⟨zbJ, zbK, zbL⟩ := M.bc3 (w := wr) (a := .int .i64 a0_0) (b := .slice (some ad340) l0_1.length c0_1) (c := .slice A0_2 l0_2.length c0_2) zae.out
                   obtain ⟨zbM, zbN, zbO⟩ := M.bf3 zae
                   go_wp2
                   repeat (go_quiet (fail); try go_wp2)
                   go_meet
                   case rel => exact ⟨_, (true), M.eqv, H', ⟨by have := HJ1.out; have := HJ9.out; have := HK3.out; have := HK4.out; first | omega | exact Nat.le_refl _⟩, ⟨M.bk zae⟩, ⟨M.up HB⟩⟩
                  ·rw [if_neg c40] at H
                   have c40b0 := decide_eq_false c40
                   have c40b1 : decide (2048 < ((rd_T43 l0_1 x4_4).f1).size) = false := decide_eq_false (by omega)
                   clear c40
                   by_cases c42 : a0_0 > 0
                   ·rw [if_pos c42] at H
                    have c42b0 := decide_eq_true c42
                    clear c42
                    have H' := Aside0.mk H
                    clear H
                    obtain ⟨zbP, zbQ, zbR⟩ := M.bc3 (w := wr) (a := .int .i64 a0_0) (b := .slice (some ad340) l0_1.length c0_1) (c := .slice A0_2 l0_2.length c0_2) zae.out
                    obtain ⟨zbS, zbT, zbU⟩ := M.bf3 zae
                    go_wp2
                    repeat (go_quiet (fail); try go_wp2)
                    go_meet
                    case rel => exact ⟨_, (((((rd_T43 l0_1 x4_4).f1).size : Int) != 32)), M.eqv, H', ⟨by have := HJ1.out; have := HJ9.out; have := HK3.out; have := HK4.out; first | omega | exact Nat.le_refl _⟩, ⟨M.bk zae⟩, ⟨M.up HB⟩⟩
                   ·rw [if_neg c42] at H
                    have c42b0 := decide_eq_false c42
                    clear c42
                    have H' := Aside0.mk H
                    clear H
                    obtain ⟨zbV, zbW, zbX⟩ := M.bc3 (w := wr) (a := .int .i64 a0_0) (b := .slice (some ad340) l0_1.length c0_1) (c := .slice A0_2 l0_2.length c0_2) zae.out
                    obtain ⟨zbY, zbZ, zb0⟩ := M.bf3 zae
                    go_wp2
                    repeat (go_quiet (fail); try go_wp2)
                    go_meet
                    case rel => exact ⟨_, (false), M.eqv, H', ⟨by have := HJ1.out; have := HJ9.out; have := HK3.out; have := HK4.out; first | omega | exact Nat.le_refl _⟩, ⟨M.bk zae⟩, ⟨M.up HB⟩⟩
                 ·rw [if_neg c39] at H
                  have c39b0 : (a0_0 == 0) = false := beq_eq_false_iff_ne.mpr c39
                  have c39b1 : (a0_0 != 0) = true := bne_iff_ne.mpr c39
                  by_cases c45 : a0_0 > 0
                  ·rw [if_pos c45] at H
                   have c45b0 := decide_eq_true c45
                   clear c45
                   have H' := Aside0.mk H
                   clear H
                   obtain ⟨zb1, zb2, zb3⟩ := M.bc3 (w := wr) (a := .int .i64 a0_0) (b := .slice (some ad340) l0_1.length c0_1) (c := .slice A0_2 l0_2.length c0_2) zae.out
                   obtain ⟨zb4, zb5, zb6⟩ := M.bf3 zae
                   go_wp2
                   repeat (go_quiet (fail); try go_wp2)
                   go_meet
                   case rel => exact ⟨_, (((((rd_T43 l0_1 x4_4).f1).size : Int) != 32)), M.eqv, H', ⟨by have := HJ1.out; have := HJ9.out; have := HK3.out; have := HK4.out; first | omega | exact Nat.le_refl _⟩, ⟨M.bk zae⟩, ⟨M.up HB⟩⟩
                  ·rw [if_neg c45] at H
                   have c45b0 := decide_eq_false c45
                   clear c45
                   have H' := Aside0.mk H
                   clear H
                   obtain ⟨zb7, zb8, zb9⟩ := M.bc3 (w := wr) (a := .int .i64 a0_0) (b := .slice (some ad340) l0_1.length c0_1) (c := .slice A0_2 l0_2.length c0_2) zae.out
                   obtain ⟨zca, zcb, zcc⟩ := M.bf3 zae
                   go_wp2
                   repeat (go_quiet (fail); try go_wp2)
                   go_meet
                   case rel => exact ⟨_, (false), M.eqv, H', ⟨by have := HJ1.out; have := HJ9.out; have := HK3.out; have := HK4.out; first | omega | exact Nat.le_refl _⟩, ⟨M.bk zae⟩, ⟨M.up HB⟩⟩
              case rest =>
               clear HC35
               (try clear c1); (try clear c2); (try clear p2); (try clear c3); (try clear p3); (try clear q3); (try clear hx3); (try clear c4); (try clear c4b0); (try clear c5); (try clear c6); (try clear c6b0); (try clear p6); (try clear c9); (try clear c11); (try clear c11b0); (try clear c11b1); (try clear c12); (try clear c12b0); (try clear c12b1); (try clear c14); (try clear c14b0); (try clear c15); (try clear c15b0); (try clear c15b1); (try clear c15b2); (try clear c19); (try clear c19b0); (try clear c20); (try clear c20b0); (try clear c20b1); (try clear c20b2); (try clear c24); (try clear c25); (try clear c25b0); (try clear c26); (try clear c26b0); (try clear c27); (try clear c27b0); (try clear c29); (try clear c29b0); (try clear c33); (try clear c33b0); (try clear p33); (try clear q33); (try clear hx33); (try clear c34); (try clear c34b0); (try clear p34); (try clear q34); (try clear hx34); (try clear c37); (try clear c37b0); (try clear c37b1); (try clear c38); (try clear c38b0); (try clear c38b1); (try clear c39); (try clear c39b0); (try clear c39b1); (try clear c40); (try clear c40b0); (try clear c40b1); (try clear c42); (try clear c42b0); (try clear c45); (try clear c45b0); (try clear zaz); (try clear zaA); (try clear zaB); (try clear zaF); (try clear zaG); (try clear zaH); (try clear zaL); (try clear zaM); (try clear zaN); (try clear zaR); (try clear zaS); (try clear zaT); (try clear zaX); (try clear zaY); (try clear zaZ); (try clear za3); (try clear za4); (try clear za5); (try clear za9); (try clear zba); (try clear zbb); (try clear zbf); (try clear zbg); (try clear zbh); (try clear zbl); (try clear zbm); (try clear zbn); (try clear zbr); (try clear zbs); (try clear zbt); (try clear zbx); (try clear zby); (try clear zbz); (try clear zbD); (try clear zbE); (try clear zbF); (try clear zbJ); (try clear zbK); (try clear zbL); (try clear zbP); (try clear zbQ); (try clear zbR); (try clear zbV); (try clear zbW); (try clear zbX); (try clear zb1); (try clear zb2); (try clear zb3); (try clear zb7); (try clear zb8); (try clear zb9); (try clear zah); (try clear zai); (try clear zaj); (try clear zan); (try clear zao); (try clear zap); (try clear zat); (try clear zau); (try clear zav); (try clear zaC); (try clear zaD); (try clear zaE); (try clear zaI); (try clear zaJ); (try clear zaK); (try clear zaO); (try clear zaP); (try clear zaQ); (try clear zaU); (try clear zaV); (try clear zaW); (try clear za0); (try clear za1); (try clear za2); (try clear za6); (try clear za7); (try clear za8); (try clear zbc); (try clear zbd); (try clear zbe); (try clear zbi); (try clear zbj); (try clear zbk); (try clear zbo); (try clear zbp); (try clear zbq); (try clear zbu); (try clear zbv); (try clear zbw); (try clear zbA); (try clear zbB); (try clear zbC); (try clear zbG); (try clear zbH); (try clear zbI); (try clear zbM); (try clear zbN); (try clear zbO); (try clear zbS); (try clear zbT); (try clear zbU); (try clear zbY); (try clear zbZ); (try clear zb0); (try clear zb4); (try clear zb5); (try clear zb6); (try clear zca); (try clear zcb); (try clear zcc); (try clear zak); (try clear zal); (try clear zam); (try clear zaq); (try clear zar); (try clear zas); (try clear zaw); (try clear zax); (try clear zay); (try clear hx338_0); (try clear hx339_0); (try clear hx340_0); (try clear hx340_1); (try clear hx341_0); (try clear hx341_1); (try clear p2); (try clear p3); (try clear p338); (try clear p339); (try clear p340); (try clear p341); (try clear p6); (try clear q3); (try clear q338); (try clear q339); (try clear q340); (try clear q341)
               obtain ⟨kq, x115_34, rfl, HA, HJ34, zae, HB⟩ := hcut
               cases kq with
               | zero => exact absurd HA.out (by simp [pleachref19_Wrong.j4])
               | succ kj34 =>
                have H := HA.out
                clear HA
                simp only [pleachref19_Wrong.j4] at H
                by_cases c48 : x115_34 = true
                ·subst c48
                 have H1 : (some 2) = some r := by rw [if_pos rfl] at H; exact H
                 clear H
                 have H := H1
                 clear H1
                 obtain rfl := Option.some.inj H
                 go_wp2
                 repeat (go_quiet (fail); try go_wp2)
                 go_ret
                 exact M.fin (M.up HB)
                ·replace c48 := Bool.eq_false_iff.mpr c48
                 subst c48
                 have H1 : (if x4_4 > 0 then (if 0 ≤ x4_4 then (if x4_4 < (l0_1.length : Int) then (if 0 ≤ (wrap64 (x4_4 - 1)) then (if (wrap64 (x4_4 - 1)) < (l0_1.length : Int) then (if ((Op.bytesLess (((rd_T43 l0_1 (wrap64 (x4_4 - 1))).f0).toList) (((rd_T43 l0_1 x4_4).f0).toList)) = true) then (pleachref19_Wrong.l1 kj34 (wrap64 (x4_4 + 1)) a0_0 l0_1 l0_2) else (some 4)) else (none)) else (none)) else (none)) else (none)) else (pleachref19_Wrong.l1 kj34 (wrap64 (x4_4 + 1)) a0_0 l0_1 l0_2)) = some r := by rw [if_neg (show ¬ (false = true) by decide)] at H; exact H
                 clear H
                 have H := H1
                 clear H1
                 by_cases c49 : x4_4 > 0
                 ·rw [if_pos c49] at H
                  have c49b0 := decide_eq_true c49
                  clear c49
                  by_cases c50 : 0 ≤ x4_4
                  ·rw [if_pos c50] at H
                   have c50b0 := decide_eq_true c50
                   clear c50
                   by_cases c51 : x4_4 < (l0_1.length : Int)
                   ·rw [if_pos c51] at H
                    have c51b0 := decide_eq_true c51
                    clear c51
                    obtain ⟨ji52, hji52⟩ : ∃ j_ : Int, (wrap64 (x4_4 - 1)) = j_ := ⟨_, rfl⟩
                    replace H : (if 0 ≤ (ji52) then (if (ji52) < (l0_1.length : Int) then (if ((Op.bytesLess (((rd_T43 l0_1 (ji52)).f0).toList) (((rd_T43 l0_1 x4_4).f0).toList)) = true) then (pleachref19_Wrong.l1 kj34 (wrap64 (x4_4 + 1)) a0_0 l0_1 l0_2) else (some 4)) else (none)) else (none)) = some r := by first | (rw [hji52] at H; exact H) | (simp only [hji52] at H ⊢; exact H)
                    have hji52w : (IntKind.i64.wrap (x4_4 - 1)) = ji52 := (i64_w _).trans hji52
                    by_cases c53 : 0 ≤ (ji52)
                    ·rw [if_pos c53] at H
                     have c53b0 := decide_eq_true c53
                     clear c53
                     by_cases c54 : (ji52) < (l0_1.length : Int)
                     ·rw [if_pos c54] at H
                      have c54b0 := decide_eq_true c54
                      clear c54
                      by_cases c55 : ((Op.bytesLess (((rd_T43 l0_1 (ji52)).f0).toList) (((rd_T43 l0_1 x4_4).f0).toList)) = true)
                      ·rw [if_pos c55] at H
                       have c55b0 : (Op.bytesLess (((rd_T43 l0_1 (ji52)).f0).toList) (((rd_T43 l0_1 x4_4).f0).toList)) = true := c55
                       clear c55
                       have H' := Aside0.mk H
                       clear H
                       obtain ⟨zcd, zce, zcf⟩ := M.bc3 (w := wc) (a := .int .i64 a0_0) (b := .slice (some ad340) l0_1.length c0_1) (c := .slice A0_2 l0_2.length c0_2) zae.out
                       obtain ⟨zcg, zch, zci⟩ := M.bf3 zae
                       have p342 : 0 ≤ (x4_4 : Int) := M.dt
                       have q342 : x4_4 < (l0_1.length : Int) := M.dt
                       obtain ⟨ad342, e342, hx342_0, hx342_1⟩ := at_T43 HR0_1.out x4_4 p342 q342
                       obtain rfl : ad340 = ad342 := (by injection e342)
                       replace hx342_0 := M.hc HB hx342_0
                       replace hx342_1 := M.hc HB hx342_1
                       replace p342 := eq_true p342
                       replace q342 := eq_true q342
                       have p343 : 0 ≤ ((ji52) : Int) := M.dt
                       have q343 : (ji52) < (l0_1.length : Int) := M.dt
                       obtain ⟨ad343, e343, hx343_0, hx343_1⟩ := at_T43 HR0_1.out (ji52) p343 q343
                       obtain rfl : ad340 = ad343 := (by injection e343)
                       replace hx343_0 := M.hc HB hx343_0
                       replace hx343_1 := M.hc HB hx343_1
                       replace p343 := eq_true p343
                       replace q343 := eq_true q343
                       go_wp2
                       repeat (go_quiet (fail); try go_wp2)
                       go_roundg kj34
                       case measure => have := HJ1.out; have := HJ9.out; have := HK3.out; have := HK4.out; have := HJ34.out; omega
                       case rel => exact ⟨(wrap64 (x4_4 + 1)), M.eqv, H', ⟨by have := HJ1.out; have := HJ9.out; have := HK3.out; have := HK4.out; have := HJ34.out; omega⟩, ⟨M.bk zae⟩, ⟨M.up HB⟩⟩
                      ·rw [if_neg c55] at H
                       have c55b0 : (Op.bytesLess (((rd_T43 l0_1 (ji52)).f0).toList) (((rd_T43 l0_1 x4_4).f0).toList)) = false := by simpa using c55
                       clear c55
                       obtain rfl := Option.some.inj H
                       obtain ⟨zcj, zck, zcl⟩ := M.bc3 (w := wc) (a := .int .i64 a0_0) (b := .slice (some ad340) l0_1.length c0_1) (c := .slice A0_2 l0_2.length c0_2) zae.out
                       obtain ⟨zcm, zcn, zco⟩ := M.bf3 zae
                       have p342 : 0 ≤ (x4_4 : Int) := M.dt
                       have q342 : x4_4 < (l0_1.length : Int) := M.dt
                       obtain ⟨ad342, e342, hx342_0, hx342_1⟩ := at_T43 HR0_1.out x4_4 p342 q342
                       obtain rfl : ad340 = ad342 := (by injection e342)
                       replace hx342_0 := M.hc HB hx342_0
                       replace hx342_1 := M.hc HB hx342_1
                       replace p342 := eq_true p342
                       replace q342 := eq_true q342
                       have p343 : 0 ≤ ((ji52) : Int) := M.dt
                       have q343 : (ji52) < (l0_1.length : Int) := M.dt
                       obtain ⟨ad343, e343, hx343_0, hx343_1⟩ := at_T43 HR0_1.out (ji52) p343 q343
                       obtain rfl : ad340 = ad343 := (by injection e343)
                       replace hx343_0 := M.hc HB hx343_0
                       replace hx343_1 := M.hc HB hx343_1
                       replace p343 := eq_true p343
                       replace q343 := eq_true q343
                       go_wp2
                       repeat (go_quiet (fail); try go_wp2)
                       go_ret
                       exact ⟨by first | rfl | (simp [errW_none, errW_some] <;> rfl) | (simp only [← hji52]; first | rfl | (simp [errW_none, errW_some] <;> rfl)) | (simp [*, errW_none, errW_some] <;> rfl), M.up HB⟩
                     ·exact M.nf c54 H
                    ·exact M.nf c53 H
                   ·exact M.nf c51 H
                  ·exact M.nf c50 H
                 ·rw [if_neg c49] at H
                  have c49b0 := decide_eq_false c49
                  clear c49
                  have H' := Aside0.mk H
                  clear H
                  go_wp2
                  repeat (go_quiet (fail); try go_wp2)
                  go_roundg kj34
                  case measure => have := HJ1.out; have := HJ9.out; have := HK3.out; have := HK4.out; have := HJ34.out; omega
                  case rel => exact ⟨(wrap64 (x4_4 + 1)), M.eqv, H', ⟨by have := HJ1.out; have := HJ9.out; have := HK3.out; have := HK4.out; have := HJ34.out; omega⟩, ⟨M.bk zae⟩, ⟨M.up HB⟩⟩
             ·exact M.nf c34 H
            ·rw [if_neg c33] at H
             have c33b0 := decide_eq_false c33
             clear c33
             obtain rfl := Option.some.inj H
             obtain ⟨zcp, zcq, zcr⟩ := M.bc3 (w := wr) (a := .int .i64 a0_0) (b := .slice A0_1 l0_1.length c0_1) (c := .slice A0_2 l0_2.length c0_2) zae.out
             obtain ⟨zcs, zct, zcu⟩ := M.bf3 zae
             go_wp2
             repeat (go_quiet (fail); try go_wp2)
             go_ret
             exact M.fin (M.up HB)
end Go.Proofs.YtkjbhgolillidaaDoor.EMarkNames
