-- Laid by this session's own program (wip/tools/fold.py): this session's texts, cut to what the claim names and put together; Lean checks it.
import Derived.Test.YtkjbhgolillidaaDoorVMarkNames1
import Derived.Test.YtkjbhgolillidaaDoorVMarkNames3
import Derived.Test.YtkjbhgolillidaaDoorXMarkNames1
namespace Go.Proofs.YtkjbhgolillidaaDoor.EMarkNames
open Go.RowKit Go.Proofs.YtkjbhgolillidaaDoorW.PrintWords Go.Proofs.YtkjbhgolillidaaDoorW.PrintLast Go.Proofs.YtkjbhgolillidaaDoorW.PrintMore
attribute [local go_sem] M.run_leq M.run_gtr M.run_geq max2_int min2_int max_two min_two max_three min_three max_four min_four
set_option linter.unusedVariables false
set_option linter.unusedSimpArgs false
mutual
def chunk_Check_p.j0 : Nat → Bool → Int → List (S43) → List Int → Option (Int)
  | 0, _, _, _, _ => none
  | k + 1, x23, zaa, zab, zac => if x23 = true then (some 2) else (chunk_Check_p.l0 k zab (zab.length : Int) 0 zaa zab zac)
def chunk_Check_p.l0 : Nat → List (S43) → Int → Int → Int → List (S43) → List Int → Option (Int)
  | 0, _, _, _, _, _, _ => none
  | k + 1, x25, x26, x27, zaa, zab, zac => if x27 < x26 then (if 0 ≤ x27 then (if x27 < (x25.length : Int) then ((chunk_fits.f zaa ((rd_T43 x25 x27).f0) ((rd_T43 x25 x27).f1)).bind fun t139 => (if t139 = true then (if x27 > 0 then (if 0 ≤ (wrap64 (x27 - 1)) then (if (wrap64 (x27 - 1)) < (zab.length : Int) then (if ((Op.bytesLess (((rd_T43 zab (wrap64 (x27 - 1))).f0).toList) (((rd_T43 x25 x27).f0).toList)) = true) then (chunk_Check_p.l0 k x25 x26 (wrap64 (x27 + 1)) zaa zab zac) else (some 4)) else (none)) else (none)) else (chunk_Check_p.l0 k x25 x26 (wrap64 (x27 + 1)) zaa zab zac)) else (some 2))) else (none)) else (none)) else (some 0)
end
def chunk_Check_p.f (k : Nat) (a0_0 : Int) (l0_1 : List (S43)) (l0_2 : List Int) : Option (Int) := if a0_0 < 0 then (chunk_Check_p.j0 k true a0_0 l0_1 l0_2) else (if a0_0 > 40 then (chunk_Check_p.j0 k true a0_0 l0_1 l0_2) else (if (l0_1.length : Int) > 8 then (chunk_Check_p.j0 k true a0_0 l0_1 l0_2) else ((chunk_counted.f a0_0 l0_1 l0_2).bind fun t136 => (chunk_Check_p.j0 k (!t136) a0_0 l0_1 l0_2))))
theorem chunk_Check_p.mono_l : ∀ k, (∀ y0 y1 y2 y3, LeO (chunk_Check_p.j0 k y0 y1 y2 y3) (chunk_Check_p.j0 (k + 1) y0 y1 y2 y3)) ∧ (∀ y0 y1 y2 y3 y4 y5, LeO (chunk_Check_p.l0 k y0 y1 y2 y3 y4 y5) (chunk_Check_p.l0 (k + 1) y0 y1 y2 y3 y4 y5))
  | 0 => ⟨fun _ _ _ _ r h => by simp [chunk_Check_p.j0] at h, fun _ _ _ _ _ _ r h => by simp [chunk_Check_p.l0] at h⟩
  | k + 1 => by
    obtain ⟨ih0, ih1⟩ := chunk_Check_p.mono_l k
    refine ⟨?_, ?_⟩
    · intro y0 y1 y2 y3
      unfold chunk_Check_p.j0
      repeat' first
      | (with_reducible exact ih0 _ _ _ _)
      | (with_reducible exact ih1 _ _ _ _ _ _)
      | (with_reducible exact LeO.refl _)
      | (with_reducible exact LeO.none _)
      | (with_reducible refine LeO.ite ?_ ?_)
      | (with_reducible refine LeO.bind ?_ (fun _ => ?_))
      | exact ih0 _ _ _ _
      | exact ih1 _ _ _ _ _ _
      | exact LeO.none _
      | refine LeO.ite ?_ ?_
      | refine LeO.bind ?_ (fun _ => ?_)
    · intro y0 y1 y2 y3 y4 y5
      unfold chunk_Check_p.l0
      repeat' first
      | (with_reducible exact ih0 _ _ _ _)
      | (with_reducible exact ih1 _ _ _ _ _ _)
      | (with_reducible exact LeO.refl _)
      | (with_reducible exact LeO.none _)
      | (with_reducible refine LeO.ite ?_ ?_)
      | (with_reducible refine LeO.bind ?_ (fun _ => ?_))
      | exact ih0 _ _ _ _
      | exact ih1 _ _ _ _ _ _
      | exact LeO.none _
      | refine LeO.ite ?_ ?_
      | refine LeO.bind ?_ (fun _ => ?_)
theorem chunk_Check_p.mono : ∀ a0 a1 a2 k, LeO (chunk_Check_p.f k a0 a1 a2) (chunk_Check_p.f (k + 1) a0 a1 a2) := by
  intro a0 a1 a2 k
  obtain ⟨ih0, ih1⟩ := chunk_Check_p.mono_l k
  unfold chunk_Check_p.f
  repeat' first
      | (with_reducible exact ih0 _ _ _ _)
      | (with_reducible exact ih1 _ _ _ _ _ _)
      | (with_reducible exact LeO.refl _)
      | (with_reducible exact LeO.none _)
      | (with_reducible refine LeO.ite ?_ ?_)
      | (with_reducible refine LeO.bind ?_ (fun _ => ?_))
      | exact ih0 _ _ _ _
      | exact ih1 _ _ _ _ _ _
      | exact LeO.none _
      | refine LeO.ite ?_ ?_
      | refine LeO.bind ?_ (fun _ => ?_)
set_option maxHeartbeats 8000000 in
set_option maxRecDepth 100000 in
theorem chunk_Check_p.calls (k : Nat) (a0_0 : Int) (A0_1 : Option Addr) (c0_1 : Nat) (l0_1 : List (S43)) (A0_2 : Option Addr) (c0_2 : Nat) (l0_2 : List Int) (r : Int) (w : World) (hr0_1 : Kd.C k43 w A0_1 l0_1.length l0_1) (hc0_1 : l0_1.length ≤ c0_1) (hr0_2 : Kd.C (Kd.int .i64) w A0_2 l0_2.length l0_2) (hc0_2 : l0_2.length ≤ c0_2) (h : chunk_Check_p.f k a0_0 l0_1 l0_2 = some r) :
    Calls Tryd.prog 29 #[.agg #[.int .i64 a0_0, .slice A0_1 l0_1.length c0_1, .slice A0_2 l0_2.length c0_2]] w fun e w' => e = .returned (.int .i64 r) ∧ Below w.heap.size w w' := by
 have hu39 := Tryd.underlying39
 have hu43 := Tryd.underlying43
 have HR0_1 := Aside0.mk hr0_1
 have HC0_1 := Aside0.mk hc0_1
 clear hr0_1 hc0_1
 have HR0_2 := Aside0.mk hr0_2
 have HC0_2 := Aside0.mk hc0_2
 clear hr0_2 hc0_2
 have HB := Aside0.mk (Below.refl w.heap.size w)
 have H : (if a0_0 < 0 then (chunk_Check_p.j0 k true a0_0 l0_1 l0_2) else (if a0_0 > 40 then (chunk_Check_p.j0 k true a0_0 l0_1 l0_2) else (if (l0_1.length : Int) > 8 then (chunk_Check_p.j0 k true a0_0 l0_1 l0_2) else ((chunk_counted.f a0_0 l0_1 l0_2).bind fun t136 => (chunk_Check_p.j0 k (!t136) a0_0 l0_1 l0_2))))) = some r := h
 clear h
 have HC2 := Aside0.mk H
 clear H
 go_enter Tryd.func29, Tryd.ntmps29
 go_upto_region 1 with (first | ((with_reducible refine gate_dst (N := 1) rfl ?_); (try (refine gate_guard (by rfl) ?_; dsimp only)); refine M.bx 1 39 (#[.int .i64 a0_0, .slice A0_1 l0_1.length c0_1, .slice A0_2 l0_2.length c0_2]) ?_; intro zad hg w3 hbox hb; have zae := Aside0.mk (hbox); have zaf := M.upG HB hg; have zag := M.upG HB hg; replace HB := M.upS HB hb; clear hb hbox hg))
 repeat (go_quiet (first | ((with_reducible refine gate_dst (N := 1) rfl ?_); (try (refine gate_guard (by rfl) ?_; dsimp only)); refine M.bx 1 39 (#[.int .i64 a0_0, .slice A0_1 l0_1.length c0_1, .slice A0_2 l0_2.length c0_2]) ?_; intro zad hg w3 hbox hb; have zae := Aside0.mk (hbox); have zaf := M.upG HB hg; have zag := M.upG HB hg; replace HB := M.upS HB hb; clear hb hbox hg)); go_upto_region 1 with (first | ((with_reducible refine gate_dst (N := 1) rfl ?_); (try (refine gate_guard (by rfl) ?_; dsimp only)); refine M.bx 1 39 (#[.int .i64 a0_0, .slice A0_1 l0_1.length c0_1, .slice A0_2 l0_2.length c0_2]) ?_; intro zad hg w3 hbox hb; have zae := Aside0.mk (hbox); have zaf := M.upG HB hg; have zag := M.upG HB hg; replace HB := M.upS HB hb; clear hb hbox hg)))
 (try simp only [Act.put, List.setIfInBounds_toArray, List.set_cons_zero, List.set_cons_succ])
 go_cut [23] (fun v23 wc => ∃ (kq : Nat) (x23_1 : Bool), v23 = .bool x23_1 ∧ Aside0 (chunk_Check_p.j0 kq x23_1 a0_0 l0_1 l0_2 = some r) ∧ Aside0 (kq ≤ k) ∧ Aside0 (wc.heap[zad]? = some (.cells #[.int .i64 a0_0, (.slice A0_1 l0_1.length c0_1), (.slice A0_2 l0_2.length c0_2)] 39 (0, 0))) ∧ Aside0 (Below w.heap.size w wc))
 case first =>
  have H := HC2.out
  clear HC2
  by_cases c4 : a0_0 < 0
  ·rw [if_pos c4] at H
   have c4b0 := decide_eq_true c4
   clear c4
   (first | rw [c4b0] | (simp only [i64_w, i32_w]; rw [c4b0]) | skip)
   have H' := Aside0.mk H
   clear H
   obtain ⟨zah, zai, zaj⟩ := M.bc3 (w := w3) (a := .int .i64 a0_0) (b := .slice A0_1 l0_1.length c0_1) (c := .slice A0_2 l0_2.length c0_2) zae.out
   obtain ⟨zak, zal, zam⟩ := M.bf3 zae
   go_wp2
   repeat (go_quiet (fail); try go_wp2)
   go_meet
   case rel => exact ⟨_, (true), M.eqv, H', ⟨by first | omega | exact Nat.le_refl _⟩, ⟨M.bk zae⟩, ⟨M.up HB⟩⟩
  ·rw [if_neg c4] at H
   have c4b0 := decide_eq_false c4
   clear c4
   (first | rw [c4b0] | (simp only [i64_w, i32_w]; rw [c4b0]) | skip)
   by_cases c6 : a0_0 > 40
   ·rw [if_pos c6] at H
    have c6b0 := decide_eq_true c6
    clear c6
    have H' := Aside0.mk H
    clear H
    obtain ⟨zan, zao, zap⟩ := M.bc3 (w := w3) (a := .int .i64 a0_0) (b := .slice A0_1 l0_1.length c0_1) (c := .slice A0_2 l0_2.length c0_2) zae.out
    obtain ⟨zaq, zar, zas⟩ := M.bf3 zae
    go_wp2
    repeat (go_quiet (fail); try go_wp2)
    go_meet
    case rel => exact ⟨_, (true), M.eqv, H', ⟨by first | omega | exact Nat.le_refl _⟩, ⟨M.bk zae⟩, ⟨M.up HB⟩⟩
   ·rw [if_neg c6] at H
    have c6b0 := decide_eq_false c6
    clear c6
    by_cases c8 : (l0_1.length : Int) > 8
    ·rw [if_pos c8] at H
     have c8b0 := decide_eq_true c8
     have c8b1 : decide (8 < l0_1.length) = true := decide_eq_true (by omega)
     clear c8
     have H' := Aside0.mk H
     clear H
     obtain ⟨zat, zau, zav⟩ := M.bc3 (w := w3) (a := .int .i64 a0_0) (b := .slice A0_1 l0_1.length c0_1) (c := .slice A0_2 l0_2.length c0_2) zae.out
     obtain ⟨zaw, zax, zay⟩ := M.bf3 zae
     go_wp2
     repeat (go_quiet (fail); try go_wp2)
     go_meet
     case rel => exact ⟨_, (true), M.eqv, H', ⟨by first | omega | exact Nat.le_refl _⟩, ⟨M.bk zae⟩, ⟨M.up HB⟩⟩
    ·rw [if_neg c8] at H
     have c8b0 := decide_eq_false c8
     have c8b1 : decide (8 < l0_1.length) = false := decide_eq_false (by omega)
     clear c8
     replace H := Option.bind_eq_some_iff.mp H
     obtain ⟨t136, A100, H⟩ := H
     replace H : (chunk_Check_p.j0 k (!t136) a0_0 l0_1 l0_2) = some r := H
     have A10 := Aside0.mk A100
     clear A100
     have H' := Aside0.mk H
     clear H
     obtain ⟨zaz, zaA, zaB⟩ := M.bc3 (w := w3) (a := .int .i64 a0_0) (b := .slice A0_1 l0_1.length c0_1) (c := .slice A0_2 l0_2.length c0_2) zae.out
     obtain ⟨zaC, zaD, zaE⟩ := M.bf3 zae
     go_wp2_with (first | (go_at_call 48; (with_reducible refine (chunk_counted.calls a0_0 _ _ l0_1 _ _ l0_2 t136 _ ?side1 ?side2 ?side3 ?side4 A10.out).mono ?_); (case side1 => exact M.cB HR0_1 HB); (case side2 => exact HC0_1.out); (case side3 => exact M.cB HR0_2 HB); (case side4 => exact HC0_2.out); rintro e w12 ⟨rfl, hb⟩; replace zae := M.bkB zae hb; replace HB := M.upS HB hb; (try clear hb); (try clear hb2); (try clear hk); (try clear hi)))
     repeat (go_quiet (first | (go_at_call 48; (with_reducible refine (chunk_counted.calls a0_0 _ _ l0_1 _ _ l0_2 t136 _ ?side1 ?side2 ?side3 ?side4 A10.out).mono ?_); (case side1 => exact M.cB HR0_1 HB); (case side2 => exact HC0_1.out); (case side3 => exact M.cB HR0_2 HB); (case side4 => exact HC0_2.out); rintro e w12 ⟨rfl, hb⟩; replace zae := M.bkB zae hb; replace HB := M.upS HB hb; (try clear hb); (try clear hb2); (try clear hk); (try clear hi))); try go_wp2_with (first | (go_at_call 48; (with_reducible refine (chunk_counted.calls a0_0 _ _ l0_1 _ _ l0_2 t136 _ ?side1 ?side2 ?side3 ?side4 A10.out).mono ?_); (case side1 => exact M.cB HR0_1 HB); (case side2 => exact HC0_1.out); (case side3 => exact M.cB HR0_2 HB); (case side4 => exact HC0_2.out); rintro e w12 ⟨rfl, hb⟩; replace zae := M.bkB zae hb; replace HB := M.upS HB hb; (try clear hb); (try clear hb2); (try clear hk); (try clear hi))))
     go_meet
     case rel => exact ⟨_, (!t136), M.eqv, H', ⟨by first | omega | exact Nat.le_refl _⟩, ⟨M.bk zae⟩, ⟨M.up HB⟩⟩
 case rest =>
  clear HC2
  (try clear c2); (try clear p2); (try clear c4); (try clear c4b0); (try clear c6); (try clear c6b0); (try clear c8); (try clear c8b0); (try clear c8b1); (try clear zaz); (try clear zaA); (try clear zaB); (try clear zah); (try clear zai); (try clear zaj); (try clear zan); (try clear zao); (try clear zap); (try clear zat); (try clear zau); (try clear zav); (try clear zaC); (try clear zaD); (try clear zaE); (try clear zak); (try clear zal); (try clear zam); (try clear zaq); (try clear zar); (try clear zas); (try clear zaw); (try clear zax); (try clear zay)
  obtain ⟨kq, x23_1, rfl, HA, HJ1, zae, HB⟩ := hcut
  cases kq with
  | zero => exact absurd HA.out (by simp [chunk_Check_p.j0])
  | succ kj1 =>
   have H := HA.out
   clear HA
   simp only [chunk_Check_p.j0] at H
   by_cases c13 : x23_1 = true
   ·subst c13
    have H1 : (some 2) = some r := by rw [if_pos rfl] at H; exact H
    clear H
    have H := H1
    clear H1
    obtain rfl := Option.some.inj H
    go_wp2
    repeat (go_quiet (fail); try go_wp2)
    go_ret
    exact M.fin (M.up HB)
   ·replace c13 := Bool.eq_false_iff.mpr c13
    subst c13
    have H1 : (chunk_Check_p.l0 kj1 l0_1 (l0_1.length : Int) 0 a0_0 l0_1 l0_2) = some r := by rw [if_neg (show ¬ (false = true) by decide)] at H; exact H
    clear H
    have H := H1
    clear H1
    have H' := Aside0.mk H
    clear H
    obtain ⟨zaF, zaG, zaH⟩ := M.bc3 (w := wc) (a := .int .i64 a0_0) (b := .slice A0_1 l0_1.length c0_1) (c := .slice A0_2 l0_2.length c0_2) zae.out
    obtain ⟨zaI, zaJ, zaK⟩ := M.bf3 zae
    go_wp2
    repeat (go_quiet (fail); try go_wp2)
    go_loopg [27] kj1 (fun kq v27 w' => ∃ (x27_2 : Int), v27 = .int .i64 x27_2 ∧ Aside0 (chunk_Check_p.l0 kq l0_1 (l0_1.length : Int) x27_2 a0_0 l0_1 l0_2 = some r) ∧ Aside0 (kq ≤ kj1) ∧ Aside0 (w'.heap[zad]? = some (.cells #[.int .i64 a0_0, (.slice A0_1 l0_1.length c0_1), (.slice A0_2 l0_2.length c0_2)] 39 (0, 0))) ∧ Aside0 (Below w.heap.size w w'))
    case atStart => exact ⟨(0), M.eqv, H', ⟨Nat.le_refl _⟩, ⟨M.bk zae⟩, ⟨M.up HB⟩⟩
    case round =>
     clear H'
     (try clear c1); (try clear c2); (try clear p2); (try clear c4); (try clear c4b0); (try clear c6); (try clear c6b0); (try clear c8); (try clear c8b0); (try clear c8b1); (try clear c13); (try clear zaz); (try clear zaA); (try clear zaB); (try clear zaF); (try clear zaG); (try clear zaH); (try clear zah); (try clear zai); (try clear zaj); (try clear zan); (try clear zao); (try clear zap); (try clear zat); (try clear zau); (try clear zav); (try clear zaC); (try clear zaD); (try clear zaE); (try clear zaI); (try clear zaJ); (try clear zaK); (try clear zak); (try clear zal); (try clear zam); (try clear zaq); (try clear zar); (try clear zas); (try clear zaw); (try clear zax); (try clear zay); (try clear p2)
     obtain ⟨x27_2, rfl, HA, HK2, zae, HB⟩ := hrel
     cases gk with
     | zero => exact absurd HA.out (by simp [chunk_Check_p.l0])
     | succ k2 =>
      have H := HA.out
      clear HA
      simp only [chunk_Check_p.l0] at H
      by_cases c15 : x27_2 < (l0_1.length : Int)
      ·rw [if_pos c15] at H
       have c15b0 := decide_eq_true c15
       clear c15
       by_cases c16 : 0 ≤ x27_2
       ·rw [if_pos c16] at H
        have c16b0 := decide_eq_true c16
        clear c16
        by_cases c17 : x27_2 < (l0_1.length : Int)
        ·rw [if_pos c17] at H
         have c17b0 := decide_eq_true c17
         clear c17
         replace H := Option.bind_eq_some_iff.mp H
         obtain ⟨t139, A180, H⟩ := H
         replace H : (if t139 = true then (if x27_2 > 0 then (if 0 ≤ (wrap64 (x27_2 - 1)) then (if (wrap64 (x27_2 - 1)) < (l0_1.length : Int) then (if ((Op.bytesLess (((rd_T43 l0_1 (wrap64 (x27_2 - 1))).f0).toList) (((rd_T43 l0_1 x27_2).f0).toList)) = true) then (chunk_Check_p.l0 k2 l0_1 (l0_1.length : Int) (wrap64 (x27_2 + 1)) a0_0 l0_1 l0_2) else (some 4)) else (none)) else (none)) else (chunk_Check_p.l0 k2 l0_1 (l0_1.length : Int) (wrap64 (x27_2 + 1)) a0_0 l0_1 l0_2)) else (some 2)) = some r := H
         have A18 := Aside0.mk A180
         clear A180
         by_cases c19 : t139 = true
         ·subst c19
          have H1 : (if x27_2 > 0 then (if 0 ≤ (wrap64 (x27_2 - 1)) then (if (wrap64 (x27_2 - 1)) < (l0_1.length : Int) then (if ((Op.bytesLess (((rd_T43 l0_1 (wrap64 (x27_2 - 1))).f0).toList) (((rd_T43 l0_1 x27_2).f0).toList)) = true) then (chunk_Check_p.l0 k2 l0_1 (l0_1.length : Int) (wrap64 (x27_2 + 1)) a0_0 l0_1 l0_2) else (some 4)) else (none)) else (none)) else (chunk_Check_p.l0 k2 l0_1 (l0_1.length : Int) (wrap64 (x27_2 + 1)) a0_0 l0_1 l0_2)) = some r := by rw [if_pos rfl] at H; exact H
          clear H
          have H := H1
          clear H1
          by_cases c20 : x27_2 > 0
          ·rw [if_pos c20] at H
           have c20b0 := decide_eq_true c20
           clear c20
           obtain ⟨ji21, hji21⟩ : ∃ j_ : Int, (wrap64 (x27_2 - 1)) = j_ := ⟨_, rfl⟩
           replace H : (if 0 ≤ (ji21) then (if (ji21) < (l0_1.length : Int) then (if ((Op.bytesLess (((rd_T43 l0_1 (ji21)).f0).toList) (((rd_T43 l0_1 x27_2).f0).toList)) = true) then (chunk_Check_p.l0 k2 l0_1 (l0_1.length : Int) (wrap64 (x27_2 + 1)) a0_0 l0_1 l0_2) else (some 4)) else (none)) else (none)) = some r := by first | (rw [hji21] at H; exact H) | (simp only [hji21] at H ⊢; exact H)
           (try rw [hji21] at A18)
           have hji21w : (IntKind.i64.wrap (x27_2 - 1)) = ji21 := (i64_w _).trans hji21
           by_cases c22 : 0 ≤ (ji21)
           ·rw [if_pos c22] at H
            have c22b0 := decide_eq_true c22
            clear c22
            by_cases c23 : (ji21) < (l0_1.length : Int)
            ·rw [if_pos c23] at H
             have c23b0 := decide_eq_true c23
             clear c23
             by_cases c24 : ((Op.bytesLess (((rd_T43 l0_1 (ji21)).f0).toList) (((rd_T43 l0_1 x27_2).f0).toList)) = true)
             ·rw [if_pos c24] at H
              have c24b0 : (Op.bytesLess (((rd_T43 l0_1 (ji21)).f0).toList) (((rd_T43 l0_1 x27_2).f0).toList)) = true := c24
              clear c24
              have H' := Aside0.mk H
              clear H
              have p137 : 0 ≤ (x27_2 : Int) := M.dt
              have q137 : x27_2 < (l0_1.length : Int) := M.dt
              obtain ⟨ad137, e137, hx137_0, hx137_1⟩ := at_T43 HR0_1.out x27_2 p137 q137
              cases e137
              replace hx137_0 := M.hc HB hx137_0
              replace hx137_1 := M.hc HB hx137_1
              replace p137 := eq_true p137
              replace q137 := eq_true q137
              go_wp2_with (first | ((with_reducible refine gate_dst (N := 4) rfl ?_); (try (refine gate_guard (by rfl) ?_; dsimp only)); refine M.bx 4 43 (#[.string (⟨#[]⟩ : ByteArray), .string (⟨#[]⟩ : ByteArray)]) ?_; intro zaL hg w25 hbox hb; have zaM := Aside0.mk (hbox); have zaN := M.upG HB hg; have zaO := M.upG HB hg; replace HB := M.upS HB hb; have zaP := M.bkL zae hg; have zaQ := M.bkG zae hg; replace zae := M.bkB zae hb; clear hb hbox hg; have zaR := zaQ.out; have zaS := zaP.out; obtain ⟨zaT, zaU⟩ := M.bc2 (w := w25) (a := .string (⟨#[]⟩ : ByteArray)) (b := .string (⟨#[]⟩ : ByteArray)) zaM.out; obtain ⟨zaV, zaW⟩ := M.bf2 zaM; obtain ⟨zaX, zaY, zaZ⟩ := M.bc3 (w := w25) (a := .int .i64 a0_0) (b := .slice (some ad137) l0_1.length c0_1) (c := .slice A0_2 l0_2.length c0_2) zae.out; obtain ⟨za0, za1, za2⟩ := M.bf3 zae) | (go_at_call 49; (with_reducible refine (chunk_fits.calls a0_0 ((rd_T43 l0_1 x27_2).f0) ((rd_T43 l0_1 x27_2).f1) true _ A18.out).mono ?_); rintro e w29 ⟨rfl, hb⟩; replace zae := Aside0.mk (blk_below (g := zad) (o := .cells #[.int .i64 a0_0, .slice (some ad137) l0_1.length c0_1, .slice A0_2 l0_2.length c0_2] 39 (0, 0)) (by refine M.fr ?_ zaP; refine M.fr ?_ zaP; exact M.bk zae) hb); replace zaM := Aside0.mk (blk_below (g := zaL) (o := .cells #[.string ((rd_T43 l0_1 x27_2).f0), .string ((rd_T43 l0_1 x27_2).f1)] 43 (0, 0)) (by refine M.fp (cs := #[.string ((rd_T43 l0_1 x27_2).f0), .string (⟨#[]⟩ : ByteArray)]) ?_ 1; refine M.fp (cs := #[.string (⟨#[]⟩ : ByteArray), .string (⟨#[]⟩ : ByteArray)]) ?_ 0; exact M.bk zaM) hb); replace HB := M.upS HB hb; (try clear hb); (try clear hb2); (try clear hk); (try clear hi); obtain ⟨za3, za4, za5⟩ := M.bc3 (w := w29) (a := .int .i64 a0_0) (b := .slice (some ad137) l0_1.length c0_1) (c := .slice A0_2 l0_2.length c0_2) zae.out; obtain ⟨za6, za7, za8⟩ := M.bf3 zae; have p140 : 0 ≤ ((ji21) : Int) := M.dt; have q140 : (ji21) < (l0_1.length : Int) := M.dt; obtain ⟨ad140, e140, hx140_0, hx140_1⟩ := at_T43 HR0_1.out (ji21) p140 q140; obtain rfl : ad137 = ad140 := (by injection e140); replace hx140_0 := M.hc HB hx140_0; replace hx140_1 := M.hc HB hx140_1; replace p140 := eq_true p140; replace q140 := eq_true q140; obtain ⟨za9, zba⟩ := M.bc2 (w := w29) (a := .string ((rd_T43 l0_1 x27_2).f0)) (b := .string ((rd_T43 l0_1 x27_2).f1)) zaM.out; obtain ⟨zbb, zbc⟩ := M.bf2 zaM))
              repeat (go_quiet (first | ((with_reducible refine gate_dst (N := 4) rfl ?_); (try (refine gate_guard (by rfl) ?_; dsimp only)); refine M.bx 4 43 (#[.string (⟨#[]⟩ : ByteArray), .string (⟨#[]⟩ : ByteArray)]) ?_; intro zaL hg w25 hbox hb; have zaM := Aside0.mk (hbox); have zaN := M.upG HB hg; have zaO := M.upG HB hg; replace HB := M.upS HB hb; have zaP := M.bkL zae hg; have zaQ := M.bkG zae hg; replace zae := M.bkB zae hb; clear hb hbox hg; have zaR := zaQ.out; have zaS := zaP.out; obtain ⟨zaT, zaU⟩ := M.bc2 (w := w25) (a := .string (⟨#[]⟩ : ByteArray)) (b := .string (⟨#[]⟩ : ByteArray)) zaM.out; obtain ⟨zaV, zaW⟩ := M.bf2 zaM; obtain ⟨zaX, zaY, zaZ⟩ := M.bc3 (w := w25) (a := .int .i64 a0_0) (b := .slice (some ad137) l0_1.length c0_1) (c := .slice A0_2 l0_2.length c0_2) zae.out; obtain ⟨za0, za1, za2⟩ := M.bf3 zae) | (go_at_call 49; (with_reducible refine (chunk_fits.calls a0_0 ((rd_T43 l0_1 x27_2).f0) ((rd_T43 l0_1 x27_2).f1) true _ A18.out).mono ?_); rintro e w29 ⟨rfl, hb⟩; replace zae := Aside0.mk (blk_below (g := zad) (o := .cells #[.int .i64 a0_0, .slice (some ad137) l0_1.length c0_1, .slice A0_2 l0_2.length c0_2] 39 (0, 0)) (by refine M.fr ?_ zaP; refine M.fr ?_ zaP; exact M.bk zae) hb); replace zaM := Aside0.mk (blk_below (g := zaL) (o := .cells #[.string ((rd_T43 l0_1 x27_2).f0), .string ((rd_T43 l0_1 x27_2).f1)] 43 (0, 0)) (by refine M.fp (cs := #[.string ((rd_T43 l0_1 x27_2).f0), .string (⟨#[]⟩ : ByteArray)]) ?_ 1; refine M.fp (cs := #[.string (⟨#[]⟩ : ByteArray), .string (⟨#[]⟩ : ByteArray)]) ?_ 0; exact M.bk zaM) hb); replace HB := M.upS HB hb; (try clear hb); (try clear hb2); (try clear hk); (try clear hi); obtain ⟨za3, za4, za5⟩ := M.bc3 (w := w29) (a := .int .i64 a0_0) (b := .slice (some ad137) l0_1.length c0_1) (c := .slice A0_2 l0_2.length c0_2) zae.out; obtain ⟨za6, za7, za8⟩ := M.bf3 zae; have p140 : 0 ≤ ((ji21) : Int) := M.dt; have q140 : (ji21) < (l0_1.length : Int) := M.dt; obtain ⟨ad140, e140, hx140_0, hx140_1⟩ := at_T43 HR0_1.out (ji21) p140 q140; obtain rfl : ad137 = ad140 := (by injection e140); replace hx140_0 := M.hc HB hx140_0; replace hx140_1 := M.hc HB hx140_1; replace p140 := eq_true p140; replace q140 := eq_true q140; obtain ⟨za9, zba⟩ := M.bc2 (w := w29) (a := .string ((rd_T43 l0_1 x27_2).f0)) (b := .string ((rd_T43 l0_1 x27_2).f1)) zaM.out; obtain ⟨zbb, zbc⟩ := M.bf2 zaM)); try go_wp2_with (first | ((with_reducible refine gate_dst (N := 4) rfl ?_); (try (refine gate_guard (by rfl) ?_; dsimp only)); refine M.bx 4 43 (#[.string (⟨#[]⟩ : ByteArray), .string (⟨#[]⟩ : ByteArray)]) ?_; intro zaL hg w25 hbox hb; have zaM := Aside0.mk (hbox); have zaN := M.upG HB hg; have zaO := M.upG HB hg; replace HB := M.upS HB hb; have zaP := M.bkL zae hg; have zaQ := M.bkG zae hg; replace zae := M.bkB zae hb; clear hb hbox hg; have zaR := zaQ.out; have zaS := zaP.out; obtain ⟨zaT, zaU⟩ := M.bc2 (w := w25) (a := .string (⟨#[]⟩ : ByteArray)) (b := .string (⟨#[]⟩ : ByteArray)) zaM.out; obtain ⟨zaV, zaW⟩ := M.bf2 zaM; obtain ⟨zaX, zaY, zaZ⟩ := M.bc3 (w := w25) (a := .int .i64 a0_0) (b := .slice (some ad137) l0_1.length c0_1) (c := .slice A0_2 l0_2.length c0_2) zae.out; obtain ⟨za0, za1, za2⟩ := M.bf3 zae) | (go_at_call 49; (with_reducible refine (chunk_fits.calls a0_0 ((rd_T43 l0_1 x27_2).f0) ((rd_T43 l0_1 x27_2).f1) true _ A18.out).mono ?_); rintro e w29 ⟨rfl, hb⟩; replace zae := Aside0.mk (blk_below (g := zad) (o := .cells #[.int .i64 a0_0, .slice (some ad137) l0_1.length c0_1, .slice A0_2 l0_2.length c0_2] 39 (0, 0)) (by refine M.fr ?_ zaP; refine M.fr ?_ zaP; exact M.bk zae) hb); replace zaM := Aside0.mk (blk_below (g := zaL) (o := .cells #[.string ((rd_T43 l0_1 x27_2).f0), .string ((rd_T43 l0_1 x27_2).f1)] 43 (0, 0)) (by refine M.fp (cs := #[.string ((rd_T43 l0_1 x27_2).f0), .string (⟨#[]⟩ : ByteArray)]) ?_ 1; refine M.fp (cs := #[.string (⟨#[]⟩ : ByteArray), .string (⟨#[]⟩ : ByteArray)]) ?_ 0; exact M.bk zaM) hb); replace HB := M.upS HB hb; (try clear hb); (try clear hb2); (try clear hk); (try clear hi); obtain ⟨za3, za4, za5⟩ := M.bc3 (w := w29) (a := .int .i64 a0_0) (b := .slice (some ad137) l0_1.length c0_1) (c := .slice A0_2 l0_2.length c0_2) zae.out; obtain ⟨za6, za7, za8⟩ := M.bf3 zae; have p140 : 0 ≤ ((ji21) : Int) := M.dt; have q140 : (ji21) < (l0_1.length : Int) := M.dt; obtain ⟨ad140, e140, hx140_0, hx140_1⟩ := at_T43 HR0_1.out (ji21) p140 q140; obtain rfl : ad137 = ad140 := (by injection e140); replace hx140_0 := M.hc HB hx140_0; replace hx140_1 := M.hc HB hx140_1; replace p140 := eq_true p140; replace q140 := eq_true q140; obtain ⟨za9, zba⟩ := M.bc2 (w := w29) (a := .string ((rd_T43 l0_1 x27_2).f0)) (b := .string ((rd_T43 l0_1 x27_2).f1)) zaM.out; obtain ⟨zbb, zbc⟩ := M.bf2 zaM)))
              go_roundg k2
              case measure => have := HJ1.out; have := HK2.out; omega
              case rel => exact ⟨(wrap64 (x27_2 + 1)), M.eqv, H', ⟨by have := HJ1.out; have := HK2.out; omega⟩, ⟨M.bk zae⟩, ⟨M.up HB⟩⟩
             ·rw [if_neg c24] at H
              have c24b0 : (Op.bytesLess (((rd_T43 l0_1 (ji21)).f0).toList) (((rd_T43 l0_1 x27_2).f0).toList)) = false := by simpa using c24
              clear c24
              obtain rfl := Option.some.inj H
              have p137 : 0 ≤ (x27_2 : Int) := M.dt
              have q137 : x27_2 < (l0_1.length : Int) := M.dt
              obtain ⟨ad137, e137, hx137_0, hx137_1⟩ := at_T43 HR0_1.out x27_2 p137 q137
              cases e137
              replace hx137_0 := M.hc HB hx137_0
              replace hx137_1 := M.hc HB hx137_1
              replace p137 := eq_true p137
              replace q137 := eq_true q137
              go_wp2_with (first | ((with_reducible refine gate_dst (N := 4) rfl ?_); (try (refine gate_guard (by rfl) ?_; dsimp only)); refine M.bx 4 43 (#[.string (⟨#[]⟩ : ByteArray), .string (⟨#[]⟩ : ByteArray)]) ?_; intro zaL hg w32 hbox hb; have zaM := Aside0.mk (hbox); have zaN := M.upG HB hg; have zaO := M.upG HB hg; replace HB := M.upS HB hb; have zaP := M.bkL zae hg; have zaQ := M.bkG zae hg; replace zae := M.bkB zae hb; clear hb hbox hg; have zbd := zaQ.out; have zbe := zaP.out; obtain ⟨zbf, zbg⟩ := M.bc2 (w := w32) (a := .string (⟨#[]⟩ : ByteArray)) (b := .string (⟨#[]⟩ : ByteArray)) zaM.out; obtain ⟨zbh, zbi⟩ := M.bf2 zaM; obtain ⟨zbj, zbk, zbl⟩ := M.bc3 (w := w32) (a := .int .i64 a0_0) (b := .slice (some ad137) l0_1.length c0_1) (c := .slice A0_2 l0_2.length c0_2) zae.out; obtain ⟨zbm, zbn, zbo⟩ := M.bf3 zae) | (go_at_call 49; (with_reducible refine (chunk_fits.calls a0_0 ((rd_T43 l0_1 x27_2).f0) ((rd_T43 l0_1 x27_2).f1) true _ A18.out).mono ?_); rintro e w36 ⟨rfl, hb⟩; replace zae := Aside0.mk (blk_below (g := zad) (o := .cells #[.int .i64 a0_0, .slice (some ad137) l0_1.length c0_1, .slice A0_2 l0_2.length c0_2] 39 (0, 0)) (by refine M.fr ?_ zaP; refine M.fr ?_ zaP; exact M.bk zae) hb); replace zaM := Aside0.mk (blk_below (g := zaL) (o := .cells #[.string ((rd_T43 l0_1 x27_2).f0), .string ((rd_T43 l0_1 x27_2).f1)] 43 (0, 0)) (by refine M.fp (cs := #[.string ((rd_T43 l0_1 x27_2).f0), .string (⟨#[]⟩ : ByteArray)]) ?_ 1; refine M.fp (cs := #[.string (⟨#[]⟩ : ByteArray), .string (⟨#[]⟩ : ByteArray)]) ?_ 0; exact M.bk zaM) hb); replace HB := M.upS HB hb; (try clear hb); (try clear hb2); (try clear hk); (try clear hi); obtain ⟨zbp, zbq, zbr⟩ := M.bc3 (w := w36) (a := .int .i64 a0_0) (b := .slice (some ad137) l0_1.length c0_1) (c := .slice A0_2 l0_2.length c0_2) zae.out; obtain ⟨zbs, zbt, zbu⟩ := M.bf3 zae; have p140 : 0 ≤ ((ji21) : Int) := M.dt; have q140 : (ji21) < (l0_1.length : Int) := M.dt; obtain ⟨ad140, e140, hx140_0, hx140_1⟩ := at_T43 HR0_1.out (ji21) p140 q140; obtain rfl : ad137 = ad140 := (by injection e140); replace hx140_0 := M.hc HB hx140_0; replace hx140_1 := M.hc HB hx140_1; replace p140 := eq_true p140; replace q140 := eq_true q140; obtain ⟨zbv, zbw⟩ := M.bc2 (w := w36) (a := .string ((rd_T43 l0_1 x27_2).f0)) (b := .string ((rd_T43 l0_1 x27_2).f1)) zaM.out; obtain ⟨zbx, zby⟩ := M.bf2 zaM))
              repeat (go_quiet (first | ((with_reducible refine gate_dst (N := 4) rfl ?_); (try (refine gate_guard (by rfl) ?_; dsimp only)); refine M.bx 4 43 (#[.string (⟨#[]⟩ : ByteArray), .string (⟨#[]⟩ : ByteArray)]) ?_; intro zaL hg w32 hbox hb; have zaM := Aside0.mk (hbox); have zaN := M.upG HB hg; have zaO := M.upG HB hg; replace HB := M.upS HB hb; have zaP := M.bkL zae hg; have zaQ := M.bkG zae hg; replace zae := M.bkB zae hb; clear hb hbox hg; have zbd := zaQ.out; have zbe := zaP.out; obtain ⟨zbf, zbg⟩ := M.bc2 (w := w32) (a := .string (⟨#[]⟩ : ByteArray)) (b := .string (⟨#[]⟩ : ByteArray)) zaM.out; obtain ⟨zbh, zbi⟩ := M.bf2 zaM; obtain ⟨zbj, zbk, zbl⟩ := M.bc3 (w := w32) (a := .int .i64 a0_0) (b := .slice (some ad137) l0_1.length c0_1) (c := .slice A0_2 l0_2.length c0_2) zae.out; obtain ⟨zbm, zbn, zbo⟩ := M.bf3 zae) | (go_at_call 49; (with_reducible refine (chunk_fits.calls a0_0 ((rd_T43 l0_1 x27_2).f0) ((rd_T43 l0_1 x27_2).f1) true _ A18.out).mono ?_); rintro e w36 ⟨rfl, hb⟩; replace zae := Aside0.mk (blk_below (g := zad) (o := .cells #[.int .i64 a0_0, .slice (some ad137) l0_1.length c0_1, .slice A0_2 l0_2.length c0_2] 39 (0, 0)) (by refine M.fr ?_ zaP; refine M.fr ?_ zaP; exact M.bk zae) hb); replace zaM := Aside0.mk (blk_below (g := zaL) (o := .cells #[.string ((rd_T43 l0_1 x27_2).f0), .string ((rd_T43 l0_1 x27_2).f1)] 43 (0, 0)) (by refine M.fp (cs := #[.string ((rd_T43 l0_1 x27_2).f0), .string (⟨#[]⟩ : ByteArray)]) ?_ 1; refine M.fp (cs := #[.string (⟨#[]⟩ : ByteArray), .string (⟨#[]⟩ : ByteArray)]) ?_ 0; exact M.bk zaM) hb); replace HB := M.upS HB hb; (try clear hb); (try clear hb2); (try clear hk); (try clear hi); obtain ⟨zbp, zbq, zbr⟩ := M.bc3 (w := w36) (a := .int .i64 a0_0) (b := .slice (some ad137) l0_1.length c0_1) (c := .slice A0_2 l0_2.length c0_2) zae.out; obtain ⟨zbs, zbt, zbu⟩ := M.bf3 zae; have p140 : 0 ≤ ((ji21) : Int) := M.dt; have q140 : (ji21) < (l0_1.length : Int) := M.dt; obtain ⟨ad140, e140, hx140_0, hx140_1⟩ := at_T43 HR0_1.out (ji21) p140 q140; obtain rfl : ad137 = ad140 := (by injection e140); replace hx140_0 := M.hc HB hx140_0; replace hx140_1 := M.hc HB hx140_1; replace p140 := eq_true p140; replace q140 := eq_true q140; obtain ⟨zbv, zbw⟩ := M.bc2 (w := w36) (a := .string ((rd_T43 l0_1 x27_2).f0)) (b := .string ((rd_T43 l0_1 x27_2).f1)) zaM.out; obtain ⟨zbx, zby⟩ := M.bf2 zaM)); try go_wp2_with (first | ((with_reducible refine gate_dst (N := 4) rfl ?_); (try (refine gate_guard (by rfl) ?_; dsimp only)); refine M.bx 4 43 (#[.string (⟨#[]⟩ : ByteArray), .string (⟨#[]⟩ : ByteArray)]) ?_; intro zaL hg w32 hbox hb; have zaM := Aside0.mk (hbox); have zaN := M.upG HB hg; have zaO := M.upG HB hg; replace HB := M.upS HB hb; have zaP := M.bkL zae hg; have zaQ := M.bkG zae hg; replace zae := M.bkB zae hb; clear hb hbox hg; have zbd := zaQ.out; have zbe := zaP.out; obtain ⟨zbf, zbg⟩ := M.bc2 (w := w32) (a := .string (⟨#[]⟩ : ByteArray)) (b := .string (⟨#[]⟩ : ByteArray)) zaM.out; obtain ⟨zbh, zbi⟩ := M.bf2 zaM; obtain ⟨zbj, zbk, zbl⟩ := M.bc3 (w := w32) (a := .int .i64 a0_0) (b := .slice (some ad137) l0_1.length c0_1) (c := .slice A0_2 l0_2.length c0_2) zae.out; obtain ⟨zbm, zbn, zbo⟩ := M.bf3 zae) | (go_at_call 49; (with_reducible refine (chunk_fits.calls a0_0 ((rd_T43 l0_1 x27_2).f0) ((rd_T43 l0_1 x27_2).f1) true _ A18.out).mono ?_); rintro e w36 ⟨rfl, hb⟩; replace zae := Aside0.mk (blk_below (g := zad) (o := .cells #[.int .i64 a0_0, .slice (some ad137) l0_1.length c0_1, .slice A0_2 l0_2.length c0_2] 39 (0, 0)) (by refine M.fr ?_ zaP; refine M.fr ?_ zaP; exact M.bk zae) hb); replace zaM := Aside0.mk (blk_below (g := zaL) (o := .cells #[.string ((rd_T43 l0_1 x27_2).f0), .string ((rd_T43 l0_1 x27_2).f1)] 43 (0, 0)) (by refine M.fp (cs := #[.string ((rd_T43 l0_1 x27_2).f0), .string (⟨#[]⟩ : ByteArray)]) ?_ 1; refine M.fp (cs := #[.string (⟨#[]⟩ : ByteArray), .string (⟨#[]⟩ : ByteArray)]) ?_ 0; exact M.bk zaM) hb); replace HB := M.upS HB hb; (try clear hb); (try clear hb2); (try clear hk); (try clear hi); obtain ⟨zbp, zbq, zbr⟩ := M.bc3 (w := w36) (a := .int .i64 a0_0) (b := .slice (some ad137) l0_1.length c0_1) (c := .slice A0_2 l0_2.length c0_2) zae.out; obtain ⟨zbs, zbt, zbu⟩ := M.bf3 zae; have p140 : 0 ≤ ((ji21) : Int) := M.dt; have q140 : (ji21) < (l0_1.length : Int) := M.dt; obtain ⟨ad140, e140, hx140_0, hx140_1⟩ := at_T43 HR0_1.out (ji21) p140 q140; obtain rfl : ad137 = ad140 := (by injection e140); replace hx140_0 := M.hc HB hx140_0; replace hx140_1 := M.hc HB hx140_1; replace p140 := eq_true p140; replace q140 := eq_true q140; obtain ⟨zbv, zbw⟩ := M.bc2 (w := w36) (a := .string ((rd_T43 l0_1 x27_2).f0)) (b := .string ((rd_T43 l0_1 x27_2).f1)) zaM.out; obtain ⟨zbx, zby⟩ := M.bf2 zaM)))
              go_ret
              exact ⟨by first | rfl | (simp [errW_none, errW_some] <;> rfl) | (simp only [← hji21]; first | rfl | (simp [errW_none, errW_some] <;> rfl)) | (simp [*, errW_none, errW_some] <;> rfl), M.up HB⟩
            ·exact M.nf c23 H
           ·exact M.nf c22 H
          ·rw [if_neg c20] at H
           have c20b0 := decide_eq_false c20
           clear c20
           have H' := Aside0.mk H
           clear H
           have p137 : 0 ≤ (x27_2 : Int) := M.dt
           have q137 : x27_2 < (l0_1.length : Int) := M.dt
           obtain ⟨ad137, e137, hx137_0, hx137_1⟩ := at_T43 HR0_1.out x27_2 p137 q137
           cases e137
           replace hx137_0 := M.hc HB hx137_0
           replace hx137_1 := M.hc HB hx137_1
           replace p137 := eq_true p137
           replace q137 := eq_true q137
           go_wp2_with (first | ((with_reducible refine gate_dst (N := 4) rfl ?_); (try (refine gate_guard (by rfl) ?_; dsimp only)); refine M.bx 4 43 (#[.string (⟨#[]⟩ : ByteArray), .string (⟨#[]⟩ : ByteArray)]) ?_; intro zaL hg w39 hbox hb; have zaM := Aside0.mk (hbox); have zaN := M.upG HB hg; have zaO := M.upG HB hg; replace HB := M.upS HB hb; have zaP := M.bkL zae hg; have zaQ := M.bkG zae hg; replace zae := M.bkB zae hb; clear hb hbox hg; have zbz := zaQ.out; have zbA := zaP.out; obtain ⟨zbB, zbC⟩ := M.bc2 (w := w39) (a := .string (⟨#[]⟩ : ByteArray)) (b := .string (⟨#[]⟩ : ByteArray)) zaM.out; obtain ⟨zbD, zbE⟩ := M.bf2 zaM; obtain ⟨zbF, zbG, zbH⟩ := M.bc3 (w := w39) (a := .int .i64 a0_0) (b := .slice (some ad137) l0_1.length c0_1) (c := .slice A0_2 l0_2.length c0_2) zae.out; obtain ⟨zbI, zbJ, zbK⟩ := M.bf3 zae) | (go_at_call 49; (with_reducible refine (chunk_fits.calls a0_0 ((rd_T43 l0_1 x27_2).f0) ((rd_T43 l0_1 x27_2).f1) true _ A18.out).mono ?_); rintro e w43 ⟨rfl, hb⟩; replace zae := Aside0.mk (blk_below (g := zad) (o := .cells #[.int .i64 a0_0, .slice (some ad137) l0_1.length c0_1, .slice A0_2 l0_2.length c0_2] 39 (0, 0)) (by refine M.fr ?_ zaP; refine M.fr ?_ zaP; exact M.bk zae) hb); replace zaM := Aside0.mk (blk_below (g := zaL) (o := .cells #[.string ((rd_T43 l0_1 x27_2).f0), .string ((rd_T43 l0_1 x27_2).f1)] 43 (0, 0)) (by refine M.fp (cs := #[.string ((rd_T43 l0_1 x27_2).f0), .string (⟨#[]⟩ : ByteArray)]) ?_ 1; refine M.fp (cs := #[.string (⟨#[]⟩ : ByteArray), .string (⟨#[]⟩ : ByteArray)]) ?_ 0; exact M.bk zaM) hb); replace HB := M.upS HB hb; (try clear hb); (try clear hb2); (try clear hk); (try clear hi)))
           repeat (go_quiet (first | ((with_reducible refine gate_dst (N := 4) rfl ?_); (try (refine gate_guard (by rfl) ?_; dsimp only)); refine M.bx 4 43 (#[.string (⟨#[]⟩ : ByteArray), .string (⟨#[]⟩ : ByteArray)]) ?_; intro zaL hg w39 hbox hb; have zaM := Aside0.mk (hbox); have zaN := M.upG HB hg; have zaO := M.upG HB hg; replace HB := M.upS HB hb; have zaP := M.bkL zae hg; have zaQ := M.bkG zae hg; replace zae := M.bkB zae hb; clear hb hbox hg; have zbz := zaQ.out; have zbA := zaP.out; obtain ⟨zbB, zbC⟩ := M.bc2 (w := w39) (a := .string (⟨#[]⟩ : ByteArray)) (b := .string (⟨#[]⟩ : ByteArray)) zaM.out; obtain ⟨zbD, zbE⟩ := M.bf2 zaM; obtain ⟨zbF, zbG, zbH⟩ := M.bc3 (w := w39) (a := .int .i64 a0_0) (b := .slice (some ad137) l0_1.length c0_1) (c := .slice A0_2 l0_2.length c0_2) zae.out; obtain ⟨zbI, zbJ, zbK⟩ := M.bf3 zae) | (go_at_call 49; (with_reducible refine (chunk_fits.calls a0_0 ((rd_T43 l0_1 x27_2).f0) ((rd_T43 l0_1 x27_2).f1) true _ A18.out).mono ?_); rintro e w43 ⟨rfl, hb⟩; replace zae := Aside0.mk (blk_below (g := zad) (o := .cells #[.int .i64 a0_0, .slice (some ad137) l0_1.length c0_1, .slice A0_2 l0_2.length c0_2] 39 (0, 0)) (by refine M.fr ?_ zaP; refine M.fr ?_ zaP; exact M.bk zae) hb); replace zaM := Aside0.mk (blk_below (g := zaL) (o := .cells #[.string ((rd_T43 l0_1 x27_2).f0), .string ((rd_T43 l0_1 x27_2).f1)] 43 (0, 0)) (by refine M.fp (cs := #[.string ((rd_T43 l0_1 x27_2).f0), .string (⟨#[]⟩ : ByteArray)]) ?_ 1; refine M.fp (cs := #[.string (⟨#[]⟩ : ByteArray), .string (⟨#[]⟩ : ByteArray)]) ?_ 0; exact M.bk zaM) hb); replace HB := M.upS HB hb; (try clear hb); (try clear hb2); (try clear hk); (try clear hi))); try go_wp2_with (first | ((with_reducible refine gate_dst (N := 4) rfl ?_); (try (refine gate_guard (by rfl) ?_; dsimp only)); refine M.bx 4 43 (#[.string (⟨#[]⟩ : ByteArray), .string (⟨#[]⟩ : ByteArray)]) ?_; intro zaL hg w39 hbox hb; have zaM := Aside0.mk (hbox); have zaN := M.upG HB hg; have zaO := M.upG HB hg; replace HB := M.upS HB hb; have zaP := M.bkL zae hg; have zaQ := M.bkG zae hg; replace zae := M.bkB zae hb; clear hb hbox hg; have zbz := zaQ.out; have zbA := zaP.out; obtain ⟨zbB, zbC⟩ := M.bc2 (w := w39) (a := .string (⟨#[]⟩ : ByteArray)) (b := .string (⟨#[]⟩ : ByteArray)) zaM.out; obtain ⟨zbD, zbE⟩ := M.bf2 zaM; obtain ⟨zbF, zbG, zbH⟩ := M.bc3 (w := w39) (a := .int .i64 a0_0) (b := .slice (some ad137) l0_1.length c0_1) (c := .slice A0_2 l0_2.length c0_2) zae.out; obtain ⟨zbI, zbJ, zbK⟩ := M.bf3 zae) | (go_at_call 49; (with_reducible refine (chunk_fits.calls a0_0 ((rd_T43 l0_1 x27_2).f0) ((rd_T43 l0_1 x27_2).f1) true _ A18.out).mono ?_); rintro e w43 ⟨rfl, hb⟩; replace zae := Aside0.mk (blk_below (g := zad) (o := .cells #[.int .i64 a0_0, .slice (some ad137) l0_1.length c0_1, .slice A0_2 l0_2.length c0_2] 39 (0, 0)) (by refine M.fr ?_ zaP; refine M.fr ?_ zaP; exact M.bk zae) hb); replace zaM := Aside0.mk (blk_below (g := zaL) (o := .cells #[.string ((rd_T43 l0_1 x27_2).f0), .string ((rd_T43 l0_1 x27_2).f1)] 43 (0, 0)) (by refine M.fp (cs := #[.string ((rd_T43 l0_1 x27_2).f0), .string (⟨#[]⟩ : ByteArray)]) ?_ 1; refine M.fp (cs := #[.string (⟨#[]⟩ : ByteArray), .string (⟨#[]⟩ : ByteArray)]) ?_ 0; exact M.bk zaM) hb); replace HB := M.upS HB hb; (try clear hb); (try clear hb2); (try clear hk); (try clear hi))))
           go_roundg k2
           case measure => have := HJ1.out; have := HK2.out; omega
           case rel => exact ⟨(wrap64 (x27_2 + 1)), M.eqv, H', ⟨by have := HJ1.out; have := HK2.out; omega⟩, ⟨M.bk zae⟩, ⟨M.up HB⟩⟩
         ·replace c19 := Bool.eq_false_iff.mpr c19
          subst c19
          have H1 : (some 2) = some r := by rw [if_neg (show ¬ (false = true) by decide)] at H; exact H
          clear H
          have H := H1
          clear H1
          obtain rfl := Option.some.inj H
          have p137 : 0 ≤ (x27_2 : Int) := M.dt
          have q137 : x27_2 < (l0_1.length : Int) := M.dt
          obtain ⟨ad137, e137, hx137_0, hx137_1⟩ := at_T43 HR0_1.out x27_2 p137 q137
          cases e137
          replace hx137_0 := M.hc HB hx137_0
          replace hx137_1 := M.hc HB hx137_1
          replace p137 := eq_true p137
          replace q137 := eq_true q137
          go_wp2_with (first | ((with_reducible refine gate_dst (N := 4) rfl ?_); (try (refine gate_guard (by rfl) ?_; dsimp only)); refine M.bx 4 43 (#[.string (⟨#[]⟩ : ByteArray), .string (⟨#[]⟩ : ByteArray)]) ?_; intro zaL hg w44 hbox hb; have zaM := Aside0.mk (hbox); have zaN := M.upG HB hg; have zaO := M.upG HB hg; replace HB := M.upS HB hb; have zaP := M.bkL zae hg; have zaQ := M.bkG zae hg; replace zae := M.bkB zae hb; clear hb hbox hg; have zbL := zaQ.out; have zbM := zaP.out; obtain ⟨zbN, zbO⟩ := M.bc2 (w := w44) (a := .string (⟨#[]⟩ : ByteArray)) (b := .string (⟨#[]⟩ : ByteArray)) zaM.out; obtain ⟨zbP, zbQ⟩ := M.bf2 zaM; obtain ⟨zbR, zbS, zbT⟩ := M.bc3 (w := w44) (a := .int .i64 a0_0) (b := .slice (some ad137) l0_1.length c0_1) (c := .slice A0_2 l0_2.length c0_2) zae.out; obtain ⟨zbU, zbV, zbW⟩ := M.bf3 zae) | (go_at_call 49; (with_reducible refine (chunk_fits.calls a0_0 ((rd_T43 l0_1 x27_2).f0) ((rd_T43 l0_1 x27_2).f1) false _ A18.out).mono ?_); rintro e w48 ⟨rfl, hb⟩; replace zae := Aside0.mk (blk_below (g := zad) (o := .cells #[.int .i64 a0_0, .slice (some ad137) l0_1.length c0_1, .slice A0_2 l0_2.length c0_2] 39 (0, 0)) (by refine M.fr ?_ zaP; refine M.fr ?_ zaP; exact M.bk zae) hb); replace zaM := Aside0.mk (blk_below (g := zaL) (o := .cells #[.string ((rd_T43 l0_1 x27_2).f0), .string ((rd_T43 l0_1 x27_2).f1)] 43 (0, 0)) (by refine M.fp (cs := #[.string ((rd_T43 l0_1 x27_2).f0), .string (⟨#[]⟩ : ByteArray)]) ?_ 1; refine M.fp (cs := #[.string (⟨#[]⟩ : ByteArray), .string (⟨#[]⟩ : ByteArray)]) ?_ 0; exact M.bk zaM) hb); replace HB := M.upS HB hb; (try clear hb); (try clear hb2); (try clear hk); (try clear hi)))
          repeat (go_quiet (first | ((with_reducible refine gate_dst (N := 4) rfl ?_); (try (refine gate_guard (by rfl) ?_; dsimp only)); refine M.bx 4 43 (#[.string (⟨#[]⟩ : ByteArray), .string (⟨#[]⟩ : ByteArray)]) ?_; intro zaL hg w44 hbox hb; have zaM := Aside0.mk (hbox); have zaN := M.upG HB hg; have zaO := M.upG HB hg; replace HB := M.upS HB hb; have zaP := M.bkL zae hg; have zaQ := M.bkG zae hg; replace zae := M.bkB zae hb; clear hb hbox hg; have zbL := zaQ.out; have zbM := zaP.out; obtain ⟨zbN, zbO⟩ := M.bc2 (w := w44) (a := .string (⟨#[]⟩ : ByteArray)) (b := .string (⟨#[]⟩ : ByteArray)) zaM.out; obtain ⟨zbP, zbQ⟩ := M.bf2 zaM; obtain ⟨zbR, zbS, zbT⟩ := M.bc3 (w := w44) (a := .int .i64 a0_0) (b := .slice (some ad137) l0_1.length c0_1) (c := .slice A0_2 l0_2.length c0_2) zae.out; obtain ⟨zbU, zbV, zbW⟩ := M.bf3 zae) | (go_at_call 49; (with_reducible refine (chunk_fits.calls a0_0 ((rd_T43 l0_1 x27_2).f0) ((rd_T43 l0_1 x27_2).f1) false _ A18.out).mono ?_); rintro e w48 ⟨rfl, hb⟩; replace zae := Aside0.mk (blk_below (g := zad) (o := .cells #[.int .i64 a0_0, .slice (some ad137) l0_1.length c0_1, .slice A0_2 l0_2.length c0_2] 39 (0, 0)) (by refine M.fr ?_ zaP; refine M.fr ?_ zaP; exact M.bk zae) hb); replace zaM := Aside0.mk (blk_below (g := zaL) (o := .cells #[.string ((rd_T43 l0_1 x27_2).f0), .string ((rd_T43 l0_1 x27_2).f1)] 43 (0, 0)) (by refine M.fp (cs := #[.string ((rd_T43 l0_1 x27_2).f0), .string (⟨#[]⟩ : ByteArray)]) ?_ 1; refine M.fp (cs := #[.string (⟨#[]⟩ : ByteArray), .string (⟨#[]⟩ : ByteArray)]) ?_ 0; exact M.bk zaM) hb); replace HB := M.upS HB hb; (try clear hb); (try clear hb2); (try clear hk); (try clear hi))); try go_wp2_with (first | ((with_reducible refine gate_dst (N := 4) rfl ?_); (try (refine gate_guard (by rfl) ?_; dsimp only)); refine M.bx 4 43 (#[.string (⟨#[]⟩ : ByteArray), .string (⟨#[]⟩ : ByteArray)]) ?_; intro zaL hg w44 hbox hb; have zaM := Aside0.mk (hbox); have zaN := M.upG HB hg; have zaO := M.upG HB hg; replace HB := M.upS HB hb; have zaP := M.bkL zae hg; have zaQ := M.bkG zae hg; replace zae := M.bkB zae hb; clear hb hbox hg; have zbL := zaQ.out; have zbM := zaP.out; obtain ⟨zbN, zbO⟩ := M.bc2 (w := w44) (a := .string (⟨#[]⟩ : ByteArray)) (b := .string (⟨#[]⟩ : ByteArray)) zaM.out; obtain ⟨zbP, zbQ⟩ := M.bf2 zaM; obtain ⟨zbR, zbS, zbT⟩ := M.bc3 (w := w44) (a := .int .i64 a0_0) (b := .slice (some ad137) l0_1.length c0_1) (c := .slice A0_2 l0_2.length c0_2) zae.out; obtain ⟨zbU, zbV, zbW⟩ := M.bf3 zae) | (go_at_call 49; (with_reducible refine (chunk_fits.calls a0_0 ((rd_T43 l0_1 x27_2).f0) ((rd_T43 l0_1 x27_2).f1) false _ A18.out).mono ?_); rintro e w48 ⟨rfl, hb⟩; replace zae := Aside0.mk (blk_below (g := zad) (o := .cells #[.int .i64 a0_0, .slice (some ad137) l0_1.length c0_1, .slice A0_2 l0_2.length c0_2] 39 (0, 0)) (by refine M.fr ?_ zaP; refine M.fr ?_ zaP; exact M.bk zae) hb); replace zaM := Aside0.mk (blk_below (g := zaL) (o := .cells #[.string ((rd_T43 l0_1 x27_2).f0), .string ((rd_T43 l0_1 x27_2).f1)] 43 (0, 0)) (by refine M.fp (cs := #[.string ((rd_T43 l0_1 x27_2).f0), .string (⟨#[]⟩ : ByteArray)]) ?_ 1; refine M.fp (cs := #[.string (⟨#[]⟩ : ByteArray), .string (⟨#[]⟩ : ByteArray)]) ?_ 0; exact M.bk zaM) hb); replace HB := M.upS HB hb; (try clear hb); (try clear hb2); (try clear hk); (try clear hi))))
          go_ret
          exact M.fin (M.up HB)
        ·exact M.nf c17 H
       ·exact M.nf c16 H
      ·rw [if_neg c15] at H
       have c15b0 := decide_eq_false c15
       clear c15
       obtain rfl := Option.some.inj H
       go_wp2
       repeat (go_quiet (fail); try go_wp2)
       go_ret
       exact M.fin (M.up HB)
def chunk_Check.f (a0_0 : Int) (l0_1 : List S43) (l0_2 : List Int) : Option Int := if l0_2.length ≤ 9223372036854775806 ∧ l0_1.length ≤ 9223372036854775806 then some (chunk_fits.wrong a0_0 l0_1 l0_2) else none
theorem chunk_Check.loop (lv : Int) (es : List S43) (cs : List Int) (hc : es.length ≤ 9223372036854775806) (d : Nat) : ∀ i : Nat, i + d = es.length →
    chunk_Check_p.l0 (d + 1) es (es.length : Int) (i : Int) lv es cs = some (chunk_fits.go lv (if i = 0 then none else some (rd_T43 es ((i : Int) - 1)).f0) (es.drop i)) := by
 induction d with
 | zero =>
  intro i hi
  simp only [chunk_Check_p.l0]
  rw [if_neg (by omega), List.drop_of_length_le (by omega)]
  cases (if i = 0 then none else some (rd_T43 es ((i : Int) - 1)).f0) <;> rfl
 | succ d ih =>
  intro i hi
  have hlt : i < es.length := by omega
  have hrd : rd_T43 es (i : Int) = es[i] := by simp [rd_T43, List.getD, hlt]
  have hn := ih (i + 1) (by omega)
  rw [if_neg (by omega), show ((i + 1 : Nat) : Int) - 1 = (i : Int) from by omega, hrd] at hn
  rw [chunk_Check_p.l0, if_pos (by omega), if_pos (by omega), if_pos (by omega), hrd]
  unfold chunk_fits.f
  rw [Option.bind_some, M.wrap64_id (i := (i : Int) + 1) (by omega) (by omega), show (i : Int) + 1 = ((i + 1 : Nat) : Int) from by omega, hn, List.drop_eq_getElem_cons hlt]
  generalize es[i] = e
  rw [chunk_fits.go.eq_def lv _ (e :: es.drop (i + 1))]
  simp only
  by_cases hk : chunk_fits.ok lv e.f0 e.f1 = true
  ·rw [if_pos hk, if_pos hk]
   by_cases h0 : i = 0
   ·rw [if_neg (by omega), if_pos h0]
   ·rw [if_pos (by omega), if_neg h0, M.wrap64_id (i := (i : Int) - 1) (by omega) (by omega), if_pos (by omega), if_pos (by omega)]
    simp only
    split <;> rfl
  ·rw [if_neg hk, if_neg hk]
theorem chunk_Check.ev (lv : Int) (es : List S43) (cs : List Int) (r : Int) (h : chunk_Check.f lv es cs = some r) : ∃ k, chunk_Check_p.f k lv es cs = some r := by
 unfold chunk_Check.f at h
 split at h
 case isFalse => cases h
 case isTrue hh =>
  have hj : ∀ b, chunk_Check_p.j0 (es.length + 2) b lv es cs = some (if b = true then 2 else chunk_fits.go lv none es) := by
   intro b
   have := chunk_Check.loop lv es cs hh.2 es.length 0 (by omega)
   rw [if_pos rfl, List.drop_zero] at this
   rw [show es.length + 2 = (es.length + 1) + 1 from rfl, chunk_Check_p.j0]
   cases b with
   | true => rfl
   | false => rw [if_neg (by simp), if_neg (by simp)]; exact this
  refine ⟨es.length + 2, ?_⟩
  rw [← h]
  unfold chunk_Check_p.f chunk_counted.f
  rw [if_pos hh, Option.bind_some]
  simp only [hj]
  have w2 : (lv < 0 ∨ 40 < lv ∨ 8 < es.length ∨ chunk_fits.counted lv es cs = false) → chunk_fits.wrong lv es cs = 2 := fun z => by unfold chunk_fits.wrong; rw [if_pos z]
  have w0 : ¬ (lv < 0 ∨ 40 < lv ∨ 8 < es.length ∨ chunk_fits.counted lv es cs = false) → chunk_fits.wrong lv es cs = chunk_fits.go lv none es := fun z => by unfold chunk_fits.wrong; rw [if_neg z]
  by_cases h0 : lv < 0
  ·rw [if_pos h0, w2 (.inl h0)]; rfl
  ·rw [if_neg h0]
   by_cases h1 : lv > 40
   ·rw [if_pos h1, w2 (.inr (.inl h1))]; rfl
   ·rw [if_neg h1]
    by_cases h2 : (es.length : Int) > 8
    ·rw [if_pos h2, w2 (.inr (.inr (.inl (by omega))))]; rfl
    ·rw [if_neg h2]
     cases hb : chunk_fits.counted lv es cs with
     | false => rw [w2 (.inr (.inr (.inr hb)))]; rfl
     | true =>
      have c : ¬ (lv < 0 ∨ 40 < lv ∨ 8 < es.length ∨ chunk_fits.counted lv es cs = false) := by rw [hb]; simp; omega
      rw [w0 c]; rfl
theorem chunk_Check.calls (a0_0 : Int) (A0_1 : Option Addr) (c0_1 : Nat) (l0_1 : List (S43)) (A0_2 : Option Addr) (c0_2 : Nat) (l0_2 : List Int) (r : Int) (w : World) (hr0_1 : Kd.C k43 w A0_1 l0_1.length l0_1) (hc0_1 : l0_1.length ≤ c0_1) (hr0_2 : Kd.C (Kd.int .i64) w A0_2 l0_2.length l0_2) (hc0_2 : l0_2.length ≤ c0_2) (h : chunk_Check.f a0_0 l0_1 l0_2 = some r) :
    Calls Tryd.prog 29 #[.agg #[.int .i64 a0_0, .slice A0_1 l0_1.length c0_1, .slice A0_2 l0_2.length c0_2]] w fun e w' => e = .returned (.int .i64 r) ∧ Below w.heap.size w w' := by
 obtain ⟨k, hk⟩ := chunk_Check.ev _ _ _ _ h
 exact chunk_Check_p.calls (k := k) (w := w) (h := hk) (hr0_1 := hr0_1) (hc0_1 := hc0_1) (hr0_2 := hr0_2) (hc0_2 := hc0_2)
end Go.Proofs.YtkjbhgolillidaaDoor.EMarkNames
