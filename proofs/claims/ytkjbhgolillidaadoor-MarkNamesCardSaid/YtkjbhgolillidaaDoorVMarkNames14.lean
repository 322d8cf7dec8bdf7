-- Laid by this session's own program (wip/tools/fold.py): this session's texts, cut to what the claim names and put together; Lean checks it.
import Derived.Test.YtkjbhgolillidaaDoorVMarkNames1
import Derived.Test.YtkjbhgolillidaaDoorVMarkNames12
import Derived.Test.YtkjbhgolillidaaDoorXMarkNames1
namespace Go.Proofs.YtkjbhgolillidaaDoor.EMarkNames
open Go.RowKit Go.Proofs.YtkjbhgolillidaaDoorW.PrintWords Go.Proofs.YtkjbhgolillidaaDoorW.PrintLast Go.Proofs.YtkjbhgolillidaaDoorW.PrintMore
attribute [local go_sem] M.run_leq M.run_gtr M.run_geq max2_int min2_int max_two min_two max_three min_three max_four min_four
set_option linter.unusedVariables false
set_option linter.unusedSimpArgs false
def pleachref32_Take.f (a0 : ByteArray) : Option (ByteArray × ByteArray × ByteArray × ByteArray × Bool) := if (a0.size : Int) = 129 then (if 0 < (a0.size : Int) then (if (bt a0 0) = 71 then (if 1 ≤ 33 then (if 33 ≤ (a0.size : Int) then (if 33 ≤ 65 then (if 65 ≤ (a0.size : Int) then (if 65 ≤ 97 then (if 97 ≤ (a0.size : Int) then (some (a0.extract 1 33, a0.extract 33 65, a0.extract 65 97, a0.extract 97 a0.size, true)) else (none)) else (none)) else (none)) else (none)) else (none)) else (none)) else (some ((⟨#[]⟩ : ByteArray), (⟨#[]⟩ : ByteArray), (⟨#[]⟩ : ByteArray), (⟨#[]⟩ : ByteArray), false))) else (none)) else (some ((⟨#[]⟩ : ByteArray), (⟨#[]⟩ : ByteArray), (⟨#[]⟩ : ByteArray), (⟨#[]⟩ : ByteArray), false))
def pleachref32_Take.T3 : Bool × List (List Nat × List Nat) := (true, [([], []), ([0], [0]), ([], []), ([2], [2]), ([], []), ([4], [4]), ([], []), ([6], [6]), ([1, 3, 5, 7], [1, 3, 5, 7]), ([8, 0, 1, 2, 3, 4, 5, 6, 7, 8], [8]), ([9, 0, 1, 2, 3, 4, 5, 6, 7, 8, 9], [])])
def pleachref32_Take.B3 : List Nat := [0, 1, 0, 4, 0, 16, 0, 64, 255, 511, 1023]
theorem pleachref32_Take.tab3 : rtab .any (opsOf Tryd.f16 3) = pleachref32_Take.T3 := by kernel_rfl
theorem pleachref32_Take.bits3 : waitsOk pleachref32_Take.T3.2 pleachref32_Take.B3 = true := by kernel_rfl
set_option maxHeartbeats 8000000 in
set_option maxRecDepth 100000 in
theorem pleachref32_Take.calls (a0 : ByteArray) (r1 : ByteArray) (r2 : ByteArray) (r3 : ByteArray) (r4 : ByteArray) (r5 : Bool) (w : World) (h : pleachref32_Take.f a0 = some (r1, r2, r3, r4, r5)) :
    Calls Tryd.prog 16 #[.string a0] w fun e w' => e = .returned (.tuple #[.agg #[.string r1, .string r2, .string r3, .string r4], .bool r5]) ∧ Below w.heap.size w w' := by
 have hu45 := Tryd.underlying45
 have HB := Aside0.mk (Below.refl w.heap.size w)
 have H : (if (a0.size : Int) = 129 then (if 0 < (a0.size : Int) then (if (bt a0 0) = 71 then (if 1 ≤ 33 then (if 33 ≤ (a0.size : Int) then (if 33 ≤ 65 then (if 65 ≤ (a0.size : Int) then (if 65 ≤ 97 then (if 97 ≤ (a0.size : Int) then (some (a0.extract 1 33, a0.extract 33 65, a0.extract 65 97, a0.extract 97 a0.size, true)) else (none)) else (none)) else (none)) else (none)) else (none)) else (none)) else (some ((⟨#[]⟩ : ByteArray), (⟨#[]⟩ : ByteArray), (⟨#[]⟩ : ByteArray), (⟨#[]⟩ : ByteArray), false))) else (none)) else (some ((⟨#[]⟩ : ByteArray), (⟨#[]⟩ : ByteArray), (⟨#[]⟩ : ByteArray), (⟨#[]⟩ : ByteArray), false))) = some (r1, r2, r3, r4, r5) := h
 clear h
 by_cases c2 : (a0.size : Int) = 129
 ·rw [if_pos c2] at H
  have c2b0 : ((a0.size : Int) == 129) = true := beq_iff_eq.mpr c2
  have c2b1 : ((a0.size : Int) != 129) = false := bne_eq_false_iff_eq.mpr c2
  clear c2
  by_cases c3 : 0 < (a0.size : Int)
  ·rw [if_pos c3] at H
   have c3b0 := decide_eq_true c3
   have c3b1 : decide (0 < a0.size) = true := decide_eq_true (by omega)
   clear c3
   by_cases c5 : (bt a0 0) = 71
   ·rw [if_pos c5] at H
    have c5b0 : ((bt a0 0) == 71) = true := beq_iff_eq.mpr c5
    have c5b1 : ((bt a0 0) != 71) = false := bne_eq_false_iff_eq.mpr c5
    clear c5
    by_cases c6 : 1 ≤ 33
    ·rw [if_pos c6] at H
     have c6b0 := eq_true c6
     have c6b1 := decide_eq_true c6
     clear c6
     by_cases c7 : 33 ≤ (a0.size : Int)
     ·rw [if_pos c7] at H
      have c7b0 := eq_true c7
      have c7b1 := decide_eq_true c7
      clear c7
      by_cases c8 : 33 ≤ 65
      ·rw [if_pos c8] at H
       have c8b0 := eq_true c8
       have c8b1 := decide_eq_true c8
       clear c8
       by_cases c9 : 65 ≤ (a0.size : Int)
       ·rw [if_pos c9] at H
        have c9b0 := eq_true c9
        have c9b1 := decide_eq_true c9
        clear c9
        by_cases c10 : 65 ≤ 97
        ·rw [if_pos c10] at H
         have c10b0 := eq_true c10
         have c10b1 := decide_eq_true c10
         clear c10
         by_cases c11 : 97 ≤ (a0.size : Int)
         ·rw [if_pos c11] at H
          have c11b0 := eq_true c11
          have c11b1 := decide_eq_true c11
          clear c11
          have c12b0 := eq_true (M.dt : 97 ≤ (a0.size : Int))
          simp only [Option.some.injEq, Prod.mk.injEq] at H
          obtain ⟨rfl, rfl, rfl, rfl, rfl⟩ := H
          go_enter Tryd.func16, Tryd.ntmps16
          try go_wp2_with (first | ((with_reducible refine gate_dst (N := 2) rfl ?_); refine M.bx 2 45 (#[.string (⟨#[]⟩ : ByteArray), .string (⟨#[]⟩ : ByteArray), .string (⟨#[]⟩ : ByteArray), .string (⟨#[]⟩ : ByteArray)]) ?_; intro zaa hg w13 hbox hb; have zab := Aside0.mk (hbox); have zac := M.upG HB hg; have zad := M.upG HB hg; replace HB := M.upS HB hb; clear hb hbox hg; have p4 : 0 ≤ (0 : Int) := (by omega); have q4 : 0 < a0.size := (by have : (0 : Int) < (a0.size : Int) := M.dt; omega); have hx4 : ∀ h : 0 < a0.size, ((a0[0]'h).toNat : Int) = bt a0 0 := bt_at a0 0; clear p4; have qi4 : (0 < (a0.size : Int)) = True := eq_true (M.dt); replace q4 := eq_true q4))
          replace zab := Aside0.mk (blk_drew zab.out); replace HB := Aside0.mk (below_drew1 HB.out)
          refine start_ (n := 11) (S := fun w' => True) (ds := []) #[false, false, false, false, false, false, false, false, false, false, false] (by kernel_rfl) rfl rfl trivial (fun hHeld => ?_); refine with_tabW pleachref32_Take.tab3 pleachref32_Take.bits3 (fun HT_ HW_ => ?_)
          generalize w13.drew = w14 at zab HB hHeld ⊢
          refine M.pu 0 13 [1, 10] HT_ ?_
          refine M.pu 1 14 [2, 9] HT_ ?_
          refine M.pu 2 15 [3, 8] HT_ ?_
          refine M.pu 3 16 [4, 7] HT_ ?_
          refine M.pu 4 17 [5, 6] HT_ ?_
          refine M.pu 5 18 [6, 5] HT_ ?_
          refine M.pu 6 19 [7, 4] HT_ ?_
          refine M.pu 7 20 [8, 3] HT_ ?_
          refine M.pu 8 21 [9, 2] HT_ ?_
          refine one_ (i := 9) (N := none) #[true, true, true, true, true, true, true, true, true, true, false] rfl rfl (one_of HT_.out (by kernel_rfl)) (by decide) (fun K hK => ?_)
          have hs15 : w14.cell? ⟨zaa, 0, none⟩ = some (.string (⟨#[]⟩ : ByteArray)) := (blk_cell zab.out 0).trans rfl
          have hfs15 := blk_frozen zab.out 0
          have hs16 : w14.cell? ⟨zaa, 1, none⟩ = some (.string (⟨#[]⟩ : ByteArray)) := (blk_cell zab.out 1).trans rfl
          have hfs16 := blk_frozen zab.out 1
          have hs17 : w14.cell? ⟨zaa, 2, none⟩ = some (.string (⟨#[]⟩ : ByteArray)) := (blk_cell zab.out 2).trans rfl
          have hfs17 := blk_frozen zab.out 2
          have hs18 : w14.cell? ⟨zaa, 3, none⟩ = some (.string (⟨#[]⟩ : ByteArray)) := (blk_cell zab.out 3).trans rfl
          have hfs18 := blk_frozen zab.out 3
          refine skip_ (w1 := ?_) (by rfl) rfl ?_ ?_
          rotate_left
          ·go_simp
           rfl
          refine hK.out _ _ trivial (fun hHeld => ?_)
          clear hK K
          refine M.pu 10 3 [11] HT_ ?_
          refine done_ (done_of HT_.out (by kernel_rfl)) ?_
          try go_wp2
          refine bodyPost_ret (results_ct rfl _ _ zaa 45 #[.string (a0.extract 1 33), .string (a0.extract 33 65), .string (a0.extract 65 97), .string (a0.extract 97 a0.size)] (0, 0) _ rfl (by refine M.fp (cs := #[.string (a0.extract 1 33), .string (a0.extract 33 65), .string (a0.extract 65 97), .string (⟨#[]⟩ : ByteArray)]) ?_ 3; refine M.fp (cs := #[.string (a0.extract 1 33), .string (a0.extract 33 65), .string (⟨#[]⟩ : ByteArray), .string (⟨#[]⟩ : ByteArray)]) ?_ 2; refine M.fp (cs := #[.string (a0.extract 1 33), .string (⟨#[]⟩ : ByteArray), .string (⟨#[]⟩ : ByteArray), .string (⟨#[]⟩ : ByteArray)]) ?_ 1; refine M.fp (cs := #[.string (⟨#[]⟩ : ByteArray), .string (⟨#[]⟩ : ByteArray), .string (⟨#[]⟩ : ByteArray), .string (⟨#[]⟩ : ByteArray)]) ?_ 0; exact M.bk zab) Tryd.underlying45 rfl (by kernel_rfl)) rfl ?_
          exact M.fin (M.up HB)
         ·exact M.nf c11 H
        ·exact M.nf c10 H
       ·exact M.nf c9 H
      ·exact M.nf c8 H
     ·exact M.nf c7 H
    ·exact M.nf c6 H
   ·rw [if_neg c5] at H
    have c5b0 : ((bt a0 0) == 71) = false := beq_eq_false_iff_ne.mpr c5
    have c5b1 : ((bt a0 0) != 71) = true := bne_iff_ne.mpr c5
    simp only [Option.some.injEq, Prod.mk.injEq] at H
    obtain ⟨rfl, rfl, rfl, rfl, rfl⟩ := H
    go_enter Tryd.func16, Tryd.ntmps16
    go_wp2_with (first | ((with_reducible refine gate_dst (N := 2) rfl ?_); refine M.bx 2 45 (#[.string (⟨#[]⟩ : ByteArray), .string (⟨#[]⟩ : ByteArray), .string (⟨#[]⟩ : ByteArray), .string (⟨#[]⟩ : ByteArray)]) ?_; intro zaa hg w19 hbox hb; have zab := Aside0.mk (hbox); have zac := M.upG HB hg; have zad := M.upG HB hg; replace HB := M.upS HB hb; clear hb hbox hg; have p4 : 0 ≤ (0 : Int) := (by omega); have q4 : 0 < a0.size := (by have : (0 : Int) < (a0.size : Int) := M.dt; omega); have hx4 : ∀ h : 0 < a0.size, ((a0[0]'h).toNat : Int) = bt a0 0 := bt_at a0 0; clear p4; have qi4 : (0 < (a0.size : Int)) = True := eq_true (M.dt); replace q4 := eq_true q4; have zae : w19.cell? ⟨zaa, 0, none⟩ = some (.string (⟨#[]⟩ : ByteArray)) := (blk_cell zab.out 0).trans rfl; have zaf : w19.cell? ⟨zaa, 1, none⟩ = some (.string (⟨#[]⟩ : ByteArray)) := (blk_cell zab.out 1).trans rfl; have zag : w19.cell? ⟨zaa, 2, none⟩ = some (.string (⟨#[]⟩ : ByteArray)) := (blk_cell zab.out 2).trans rfl; have zah : w19.cell? ⟨zaa, 3, none⟩ = some (.string (⟨#[]⟩ : ByteArray)) := (blk_cell zab.out 3).trans rfl; have zai := blk_frozen zab.out 0; have zaj := blk_frozen zab.out 1; have zak := blk_frozen zab.out 2; have zal := blk_frozen zab.out 3))
    refine bodyPost_ret (results_ct rfl _ _ zaa 45 #[.string (⟨#[]⟩ : ByteArray), .string (⟨#[]⟩ : ByteArray), .string (⟨#[]⟩ : ByteArray), .string (⟨#[]⟩ : ByteArray)] (0, 0) _ rfl (by refine M.fp (cs := #[.string (⟨#[]⟩ : ByteArray), .string (⟨#[]⟩ : ByteArray), .string (⟨#[]⟩ : ByteArray), .string (⟨#[]⟩ : ByteArray)]) ?_ 3; refine M.fp (cs := #[.string (⟨#[]⟩ : ByteArray), .string (⟨#[]⟩ : ByteArray), .string (⟨#[]⟩ : ByteArray), .string (⟨#[]⟩ : ByteArray)]) ?_ 2; refine M.fp (cs := #[.string (⟨#[]⟩ : ByteArray), .string (⟨#[]⟩ : ByteArray), .string (⟨#[]⟩ : ByteArray), .string (⟨#[]⟩ : ByteArray)]) ?_ 1; refine M.fp (cs := #[.string (⟨#[]⟩ : ByteArray), .string (⟨#[]⟩ : ByteArray), .string (⟨#[]⟩ : ByteArray), .string (⟨#[]⟩ : ByteArray)]) ?_ 0; exact M.bk zab) Tryd.underlying45 rfl (by kernel_rfl)) rfl ?_
    exact M.fin (M.up HB)
  ·exact M.nf c3 H
 ·rw [if_neg c2] at H
  have c2b0 : ((a0.size : Int) == 129) = false := beq_eq_false_iff_ne.mpr c2
  have c2b1 : ((a0.size : Int) != 129) = true := bne_iff_ne.mpr c2
  simp only [Option.some.injEq, Prod.mk.injEq] at H
  obtain ⟨rfl, rfl, rfl, rfl, rfl⟩ := H
  go_enter Tryd.func16, Tryd.ntmps16
  go_wp2_with (first | ((with_reducible refine gate_dst (N := 2) rfl ?_); refine M.bx 2 45 (#[.string (⟨#[]⟩ : ByteArray), .string (⟨#[]⟩ : ByteArray), .string (⟨#[]⟩ : ByteArray), .string (⟨#[]⟩ : ByteArray)]) ?_; intro zaa hg w21 hbox hb; have zab := Aside0.mk (hbox); have zac := M.upG HB hg; have zad := M.upG HB hg; replace HB := M.upS HB hb; clear hb hbox hg; have zam : w21.cell? ⟨zaa, 0, none⟩ = some (.string (⟨#[]⟩ : ByteArray)) := (blk_cell zab.out 0).trans rfl; have zan : w21.cell? ⟨zaa, 1, none⟩ = some (.string (⟨#[]⟩ : ByteArray)) := (blk_cell zab.out 1).trans rfl; have zao : w21.cell? ⟨zaa, 2, none⟩ = some (.string (⟨#[]⟩ : ByteArray)) := (blk_cell zab.out 2).trans rfl; have zap : w21.cell? ⟨zaa, 3, none⟩ = some (.string (⟨#[]⟩ : ByteArray)) := (blk_cell zab.out 3).trans rfl; have zaq := blk_frozen zab.out 0; have zar := blk_frozen zab.out 1; have zas := blk_frozen zab.out 2; have zat := blk_frozen zab.out 3))
  refine bodyPost_ret (results_ct rfl _ _ zaa 45 #[.string (⟨#[]⟩ : ByteArray), .string (⟨#[]⟩ : ByteArray), .string (⟨#[]⟩ : ByteArray), .string (⟨#[]⟩ : ByteArray)] (0, 0) _ rfl (by refine M.fp (cs := #[.string (⟨#[]⟩ : ByteArray), .string (⟨#[]⟩ : ByteArray), .string (⟨#[]⟩ : ByteArray), .string (⟨#[]⟩ : ByteArray)]) ?_ 3; refine M.fp (cs := #[.string (⟨#[]⟩ : ByteArray), .string (⟨#[]⟩ : ByteArray), .string (⟨#[]⟩ : ByteArray), .string (⟨#[]⟩ : ByteArray)]) ?_ 2; refine M.fp (cs := #[.string (⟨#[]⟩ : ByteArray), .string (⟨#[]⟩ : ByteArray), .string (⟨#[]⟩ : ByteArray), .string (⟨#[]⟩ : ByteArray)]) ?_ 1; refine M.fp (cs := #[.string (⟨#[]⟩ : ByteArray), .string (⟨#[]⟩ : ByteArray), .string (⟨#[]⟩ : ByteArray), .string (⟨#[]⟩ : ByteArray)]) ?_ 0; exact M.bk zab) Tryd.underlying45 rfl (by kernel_rfl)) rfl ?_
  exact M.fin (M.up HB)
mutual
def pleachref35_Is_p.j0 : Nat → Bool → Int → List ByteArray → ByteArray → ByteArray → Option (Bool)
  | 0, _, _, _, _, _ => none
  | k + 1, x29, zau, zav, zaw, zax => if x29 = true then (some false) else (pleachref35_Is_p.l0 k (zav.length : Int) 0 zau zav zaw zax)
def pleachref35_Is_p.l0 : Nat → Int → Int → Int → List ByteArray → ByteArray → ByteArray → Option (Bool)
  | 0, _, _, _, _, _, _ => none
  | k + 1, x32, x33, zau, zav, zaw, zax => if x33 < x32 then (if 0 ≤ x33 then (if x33 < (zav.length : Int) then (if ((rdOf ByteArray.empty zav x33).size : Int) = 32 then (pleachref35_Is_p.l0 k x32 (wrap64 (x33 + 1)) zau zav zaw zax) else (some false)) else (none)) else (none)) else (if (zav.length : Int) < 2 then (some true) else (if 0 < (zav.length : Int) then (if 1 < (zav.length : Int) then (some ((rdOf ByteArray.empty zav 0).toList != (rdOf ByteArray.empty zav 1).toList)) else (none)) else (none)))
end
def pleachref35_Is_p.f (k : Nat) (a0_0 : Int) (l0_1 : List ByteArray) (a0_2 : ByteArray) (a0_3 : ByteArray) : Option (Bool) := if a0_0 < 1 then (pleachref35_Is_p.j0 k true a0_0 l0_1 a0_2 a0_3) else (if a0_0 > 4294967295 then (pleachref35_Is_p.j0 k true a0_0 l0_1 a0_2 a0_3) else (if (l0_1.length : Int) > 2 then (pleachref35_Is_p.j0 k true a0_0 l0_1 a0_2 a0_3) else (if (a0_2.size : Int) = 32 then (pleachref35_Is_p.j0 k (decide ((a0_3.size : Int) > 40)) a0_0 l0_1 a0_2 a0_3) else (pleachref35_Is_p.j0 k true a0_0 l0_1 a0_2 a0_3))))
theorem pleachref35_Is_p.mono_l : ∀ k, (∀ y0 y1 y2 y3 y4, LeO (pleachref35_Is_p.j0 k y0 y1 y2 y3 y4) (pleachref35_Is_p.j0 (k + 1) y0 y1 y2 y3 y4)) ∧ (∀ y0 y1 y2 y3 y4 y5, LeO (pleachref35_Is_p.l0 k y0 y1 y2 y3 y4 y5) (pleachref35_Is_p.l0 (k + 1) y0 y1 y2 y3 y4 y5))
  | 0 => ⟨fun _ _ _ _ _ r h => by simp [pleachref35_Is_p.j0] at h, fun _ _ _ _ _ _ r h => by simp [pleachref35_Is_p.l0] at h⟩
  | k + 1 => by
    obtain ⟨ih0, ih1⟩ := pleachref35_Is_p.mono_l k
    refine ⟨?_, ?_⟩
    · intro y0 y1 y2 y3 y4
      unfold pleachref35_Is_p.j0
      repeat' first
      | (with_reducible exact ih0 _ _ _ _ _)
      | (with_reducible exact ih1 _ _ _ _ _ _)
      | (with_reducible exact LeO.refl _)
      | (with_reducible exact LeO.none _)
      | (with_reducible refine LeO.ite ?_ ?_)
      | (with_reducible refine LeO.bind ?_ (fun _ => ?_))
      | exact ih0 _ _ _ _ _
      | exact ih1 _ _ _ _ _ _
      | exact LeO.none _
      | refine LeO.ite ?_ ?_
      | refine LeO.bind ?_ (fun _ => ?_)
    · intro y0 y1 y2 y3 y4 y5
      unfold pleachref35_Is_p.l0
      repeat' first
      | (with_reducible exact ih0 _ _ _ _ _)
      | (with_reducible exact ih1 _ _ _ _ _ _)
      | (with_reducible exact LeO.refl _)
      | (with_reducible exact LeO.none _)
      | (with_reducible refine LeO.ite ?_ ?_)
      | (with_reducible refine LeO.bind ?_ (fun _ => ?_))
      | exact ih0 _ _ _ _ _
      | exact ih1 _ _ _ _ _ _
      | exact LeO.none _
      | refine LeO.ite ?_ ?_
      | refine LeO.bind ?_ (fun _ => ?_)
theorem pleachref35_Is_p.mono : ∀ a0 a1 a2 a3 k, LeO (pleachref35_Is_p.f k a0 a1 a2 a3) (pleachref35_Is_p.f (k + 1) a0 a1 a2 a3) := by
  intro a0 a1 a2 a3 k
  obtain ⟨ih0, ih1⟩ := pleachref35_Is_p.mono_l k
  unfold pleachref35_Is_p.f
  repeat' first
      | (with_reducible exact ih0 _ _ _ _ _)
      | (with_reducible exact ih1 _ _ _ _ _ _)
      | (with_reducible exact LeO.refl _)
      | (with_reducible exact LeO.none _)
      | (with_reducible refine LeO.ite ?_ ?_)
      | (with_reducible refine LeO.bind ?_ (fun _ => ?_))
      | exact ih0 _ _ _ _ _
      | exact ih1 _ _ _ _ _ _
      | exact LeO.none _
      | refine LeO.ite ?_ ?_
      | refine LeO.bind ?_ (fun _ => ?_)
set_option maxHeartbeats 8000000 in
set_option maxRecDepth 100000 in
theorem pleachref35_Is_p.calls (k : Nat) (a0_0 : Int) (A0_1 : Option Addr) (c0_1 : Nat) (l0_1 : List ByteArray) (a0_2 : ByteArray) (a0_3 : ByteArray) (r : Bool) (w : World) (hr0_1 : Kd.C Kd.string w A0_1 l0_1.length l0_1) (hc0_1 : l0_1.length ≤ c0_1) (h : pleachref35_Is_p.f k a0_0 l0_1 a0_2 a0_3 = some r) :
    Calls Tryd.prog 55 #[.agg #[.int .i64 a0_0, .slice A0_1 l0_1.length c0_1, .string a0_2, .string a0_3]] w fun e w' => e = .returned (.bool r) ∧ Below w.heap.size w w' := by
 have hu49 := Tryd.underlying49
 have HR0_1 := Aside0.mk hr0_1
 have HC0_1 := Aside0.mk hc0_1
 clear hr0_1 hc0_1
 have HB := Aside0.mk (Below.refl w.heap.size w)
 have H : (if a0_0 < 1 then (pleachref35_Is_p.j0 k true a0_0 l0_1 a0_2 a0_3) else (if a0_0 > 4294967295 then (pleachref35_Is_p.j0 k true a0_0 l0_1 a0_2 a0_3) else (if (l0_1.length : Int) > 2 then (pleachref35_Is_p.j0 k true a0_0 l0_1 a0_2 a0_3) else (if (a0_2.size : Int) = 32 then (pleachref35_Is_p.j0 k (decide ((a0_3.size : Int) > 40)) a0_0 l0_1 a0_2 a0_3) else (pleachref35_Is_p.j0 k true a0_0 l0_1 a0_2 a0_3))))) = some r := h
 clear h
 have HC2 := Aside0.mk H
 clear H
 go_enter Tryd.func55, Tryd.ntmps55
 go_upto_region 1 with (first | ((with_reducible refine gate_dst (N := 1) rfl ?_); (try (refine gate_guard (by rfl) ?_; dsimp only)); refine M.bx 1 49 (#[.int .i64 a0_0, .slice A0_1 l0_1.length c0_1, .string a0_2, .string a0_3]) ?_; intro zay hg w3 hbox hb; have zaz := Aside0.mk (hbox); have zaA := M.upG HB hg; have zaB := M.upG HB hg; replace HB := M.upS HB hb; clear hb hbox hg))
 repeat (go_quiet (first | ((with_reducible refine gate_dst (N := 1) rfl ?_); (try (refine gate_guard (by rfl) ?_; dsimp only)); refine M.bx 1 49 (#[.int .i64 a0_0, .slice A0_1 l0_1.length c0_1, .string a0_2, .string a0_3]) ?_; intro zay hg w3 hbox hb; have zaz := Aside0.mk (hbox); have zaA := M.upG HB hg; have zaB := M.upG HB hg; replace HB := M.upS HB hb; clear hb hbox hg)); go_upto_region 1 with (first | ((with_reducible refine gate_dst (N := 1) rfl ?_); (try (refine gate_guard (by rfl) ?_; dsimp only)); refine M.bx 1 49 (#[.int .i64 a0_0, .slice A0_1 l0_1.length c0_1, .string a0_2, .string a0_3]) ?_; intro zay hg w3 hbox hb; have zaz := Aside0.mk (hbox); have zaA := M.upG HB hg; have zaB := M.upG HB hg; replace HB := M.upS HB hb; clear hb hbox hg)))
 (try simp only [Act.put, List.setIfInBounds_toArray, List.set_cons_zero, List.set_cons_succ])
 go_cut [29] (fun v29 wc => ∃ (kq : Nat) (x29_1 : Bool), v29 = .bool x29_1 ∧ Aside0 (pleachref35_Is_p.j0 kq x29_1 a0_0 l0_1 a0_2 a0_3 = some r) ∧ Aside0 (kq ≤ k) ∧ Aside0 (wc.heap[zay]? = some (.cells #[.int .i64 a0_0, (.slice A0_1 l0_1.length c0_1), .string a0_2, .string a0_3] 49 (0, 0))) ∧ Aside0 (Below w.heap.size w wc))
 case first =>
  have H := HC2.out
  clear HC2
  by_cases c4 : a0_0 < 1
  ·rw [if_pos c4] at H
   have c4b0 := decide_eq_true c4
   clear c4
   (first | rw [c4b0] | (simp only [i64_w, i32_w]; rw [c4b0]) | skip)
   have H' := Aside0.mk H
   clear H
   have zaC : w3.cell? ⟨zay, 0, none⟩ = some (.int .i64 a0_0) := (blk_cell zaz.out 0).trans rfl
   have zaD : w3.cell? ⟨zay, 1, none⟩ = some (.slice A0_1 l0_1.length c0_1) := (blk_cell zaz.out 1).trans rfl
   have zaE : w3.cell? ⟨zay, 2, none⟩ = some (.string a0_2) := (blk_cell zaz.out 2).trans rfl
   have zaF : w3.cell? ⟨zay, 3, none⟩ = some (.string a0_3) := (blk_cell zaz.out 3).trans rfl
   have zaG := blk_frozen zaz.out 0
   have zaH := blk_frozen zaz.out 1
   have zaI := blk_frozen zaz.out 2
   have zaJ := blk_frozen zaz.out 3
   go_wp2
   repeat (go_quiet (fail); try go_wp2)
   go_meet
   case rel => exact ⟨_, (true), M.eqv, H', ⟨by first | omega | exact Nat.le_refl _⟩, ⟨M.bk zaz⟩, ⟨M.up HB⟩⟩
  ·rw [if_neg c4] at H
   have c4b0 := decide_eq_false c4
   clear c4
   (first | rw [c4b0] | (simp only [i64_w, i32_w]; rw [c4b0]) | skip)
   by_cases c6 : a0_0 > 4294967295
   ·rw [if_pos c6] at H
    have c6b0 := decide_eq_true c6
    clear c6
    have H' := Aside0.mk H
    clear H
    have zaK : w3.cell? ⟨zay, 0, none⟩ = some (.int .i64 a0_0) := (blk_cell zaz.out 0).trans rfl
    have zaL : w3.cell? ⟨zay, 1, none⟩ = some (.slice A0_1 l0_1.length c0_1) := (blk_cell zaz.out 1).trans rfl
    have zaM : w3.cell? ⟨zay, 2, none⟩ = some (.string a0_2) := (blk_cell zaz.out 2).trans rfl
    have zaN : w3.cell? ⟨zay, 3, none⟩ = some (.string a0_3) := (blk_cell zaz.out 3).trans rfl
    have zaO := blk_frozen zaz.out 0
    have zaP := blk_frozen zaz.out 1
    have zaQ := blk_frozen zaz.out 2
    have zaR := blk_frozen zaz.out 3
    go_wp2
    repeat (go_quiet (fail); try go_wp2)
    go_meet
    case rel => exact ⟨_, (true), M.eqv, H', ⟨by first | omega | exact Nat.le_refl _⟩, ⟨M.bk zaz⟩, ⟨M.up HB⟩⟩
   ·rw [if_neg c6] at H
    have c6b0 := decide_eq_false c6
    clear c6
    by_cases c8 : (l0_1.length : Int) > 2
    ·rw [if_pos c8] at H
     have c8b0 := decide_eq_true c8
     have c8b1 : decide (2 < l0_1.length) = true := decide_eq_true (by omega)
     clear c8
     have H' := Aside0.mk H
     clear H
     have zaS : w3.cell? ⟨zay, 0, none⟩ = some (.int .i64 a0_0) := (blk_cell zaz.out 0).trans rfl
     have zaT : w3.cell? ⟨zay, 1, none⟩ = some (.slice A0_1 l0_1.length c0_1) := (blk_cell zaz.out 1).trans rfl
     have zaU : w3.cell? ⟨zay, 2, none⟩ = some (.string a0_2) := (blk_cell zaz.out 2).trans rfl
     have zaV : w3.cell? ⟨zay, 3, none⟩ = some (.string a0_3) := (blk_cell zaz.out 3).trans rfl
     have zaW := blk_frozen zaz.out 0
     have zaX := blk_frozen zaz.out 1
     have zaY := blk_frozen zaz.out 2
     have zaZ := blk_frozen zaz.out 3
     go_wp2
     repeat (go_quiet (fail); try go_wp2)
     go_meet
     case rel => exact ⟨_, (true), M.eqv, H', ⟨by first | omega | exact Nat.le_refl _⟩, ⟨M.bk zaz⟩, ⟨M.up HB⟩⟩
    ·rw [if_neg c8] at H
     have c8b0 := decide_eq_false c8
     have c8b1 : decide (2 < l0_1.length) = false := decide_eq_false (by omega)
     clear c8
     by_cases c10 : (a0_2.size : Int) = 32
     ·rw [if_pos c10] at H
      have c10b0 : ((a0_2.size : Int) == 32) = true := beq_iff_eq.mpr c10
      have c10b1 : ((a0_2.size : Int) != 32) = false := bne_eq_false_iff_eq.mpr c10
      clear c10
      have H' := Aside0.mk H
      clear H
      have za0 : w3.cell? ⟨zay, 0, none⟩ = some (.int .i64 a0_0) := (blk_cell zaz.out 0).trans rfl
      have za1 : w3.cell? ⟨zay, 1, none⟩ = some (.slice A0_1 l0_1.length c0_1) := (blk_cell zaz.out 1).trans rfl
      have za2 : w3.cell? ⟨zay, 2, none⟩ = some (.string a0_2) := (blk_cell zaz.out 2).trans rfl
      have za3 : w3.cell? ⟨zay, 3, none⟩ = some (.string a0_3) := (blk_cell zaz.out 3).trans rfl
      have za4 := blk_frozen zaz.out 0
      have za5 := blk_frozen zaz.out 1
      have za6 := blk_frozen zaz.out 2
      have za7 := blk_frozen zaz.out 3
      go_wp2
      repeat (go_quiet (fail); try go_wp2)
      go_meet
      case rel => exact ⟨_, (decide ((a0_3.size : Int) > 40)), M.eqv, H', ⟨by first | omega | exact Nat.le_refl _⟩, ⟨M.bk zaz⟩, ⟨M.up HB⟩⟩
     ·rw [if_neg c10] at H
      have c10b0 : ((a0_2.size : Int) == 32) = false := beq_eq_false_iff_ne.mpr c10
      have c10b1 : ((a0_2.size : Int) != 32) = true := bne_iff_ne.mpr c10
      have H' := Aside0.mk H
      clear H
      have za8 : w3.cell? ⟨zay, 0, none⟩ = some (.int .i64 a0_0) := (blk_cell zaz.out 0).trans rfl
      have za9 : w3.cell? ⟨zay, 1, none⟩ = some (.slice A0_1 l0_1.length c0_1) := (blk_cell zaz.out 1).trans rfl
      have zba : w3.cell? ⟨zay, 2, none⟩ = some (.string a0_2) := (blk_cell zaz.out 2).trans rfl
      have zbb : w3.cell? ⟨zay, 3, none⟩ = some (.string a0_3) := (blk_cell zaz.out 3).trans rfl
      have zbc := blk_frozen zaz.out 0
      have zbd := blk_frozen zaz.out 1
      have zbe := blk_frozen zaz.out 2
      have zbf := blk_frozen zaz.out 3
      go_wp2
      repeat (go_quiet (fail); try go_wp2)
      go_meet
      case rel => exact ⟨_, (true), M.eqv, H', ⟨by first | omega | exact Nat.le_refl _⟩, ⟨M.bk zaz⟩, ⟨M.up HB⟩⟩
 case rest =>
  clear HC2
  (try clear c1); (try clear p2); (try clear c4); (try clear c4b0); (try clear c5); (try clear c6); (try clear c6b0); (try clear c8); (try clear c8b0); (try clear c8b1); (try clear c10); (try clear c10b0); (try clear c10b1); (try clear za0); (try clear za1); (try clear za2); (try clear za3); (try clear za8); (try clear za9); (try clear zba); (try clear zbb); (try clear zaC); (try clear zaD); (try clear zaE); (try clear zaF); (try clear zaK); (try clear zaL); (try clear zaM); (try clear zaN); (try clear zaS); (try clear zaT); (try clear zaU); (try clear zaV); (try clear za4); (try clear za5); (try clear za6); (try clear za7); (try clear zbc); (try clear zbd); (try clear zbe); (try clear zbf); (try clear zaG); (try clear zaH); (try clear zaI); (try clear zaJ); (try clear zaO); (try clear zaP); (try clear zaQ); (try clear zaR); (try clear zaW); (try clear zaX); (try clear zaY); (try clear zaZ)
  obtain ⟨kq, x29_1, rfl, HA, HJ1, zaz, HB⟩ := hcut
  cases kq with
  | zero => exact absurd HA.out (by simp [pleachref35_Is_p.j0])
  | succ kj1 =>
   have H := HA.out
   clear HA
   simp only [pleachref35_Is_p.j0] at H
   by_cases c13 : x29_1 = true
   ·subst c13
    have H1 : (some false) = some r := by rw [if_pos rfl] at H; exact H
    clear H
    have H := H1
    clear H1
    obtain rfl := Option.some.inj H
    go_wp2
    repeat (go_quiet (fail); try go_wp2)
    go_ret
    exact M.fin (M.up HB)
   ·replace c13 := Bool.eq_false_iff.mpr c13
    subst c13
    have H1 : (pleachref35_Is_p.l0 kj1 (l0_1.length : Int) 0 a0_0 l0_1 a0_2 a0_3) = some r := by rw [if_neg (show ¬ (false = true) by decide)] at H; exact H
    clear H
    have H := H1
    clear H1
    have H' := Aside0.mk H
    clear H
    have zbg : wc.cell? ⟨zay, 0, none⟩ = some (.int .i64 a0_0) := (blk_cell zaz.out 0).trans rfl
    have zbh : wc.cell? ⟨zay, 1, none⟩ = some (.slice A0_1 l0_1.length c0_1) := (blk_cell zaz.out 1).trans rfl
    have zbi : wc.cell? ⟨zay, 2, none⟩ = some (.string a0_2) := (blk_cell zaz.out 2).trans rfl
    have zbj : wc.cell? ⟨zay, 3, none⟩ = some (.string a0_3) := (blk_cell zaz.out 3).trans rfl
    have zbk := blk_frozen zaz.out 0
    have zbl := blk_frozen zaz.out 1
    have zbm := blk_frozen zaz.out 2
    have zbn := blk_frozen zaz.out 3
    go_wp2
    repeat (go_quiet (fail); try go_wp2)
    go_loopg [33] kj1 (fun kq v33 w' => ∃ (x33_2 : Int), v33 = .int .i64 x33_2 ∧ Aside0 (pleachref35_Is_p.l0 kq (l0_1.length : Int) x33_2 a0_0 l0_1 a0_2 a0_3 = some r) ∧ Aside0 (kq ≤ kj1) ∧ Aside0 (w'.heap[zay]? = some (.cells #[.int .i64 a0_0, (.slice A0_1 l0_1.length c0_1), .string a0_2, .string a0_3] 49 (0, 0))) ∧ Aside0 (Below w.heap.size w w'))
    case atStart => exact ⟨(0), M.eqv, H', ⟨Nat.le_refl _⟩, ⟨M.bk zaz⟩, ⟨M.up HB⟩⟩
    case round =>
     clear H'
     (try clear c1); (try clear p2); (try clear c4); (try clear c4b0); (try clear c5); (try clear c6); (try clear c6b0); (try clear c8); (try clear c8b0); (try clear c8b1); (try clear c10); (try clear c10b0); (try clear c10b1); (try clear c13); (try clear za0); (try clear za1); (try clear za2); (try clear za3); (try clear za8); (try clear za9); (try clear zba); (try clear zbb); (try clear zbg); (try clear zbh); (try clear zbi); (try clear zbj); (try clear zaC); (try clear zaD); (try clear zaE); (try clear zaF); (try clear zaK); (try clear zaL); (try clear zaM); (try clear zaN); (try clear zaS); (try clear zaT); (try clear zaU); (try clear zaV); (try clear za4); (try clear za5); (try clear za6); (try clear za7); (try clear zbc); (try clear zbd); (try clear zbe); (try clear zbf); (try clear zbk); (try clear zbl); (try clear zbm); (try clear zbn); (try clear zaG); (try clear zaH); (try clear zaI); (try clear zaJ); (try clear zaO); (try clear zaP); (try clear zaQ); (try clear zaR); (try clear zaW); (try clear zaX); (try clear zaY); (try clear zaZ); (try clear p2)
     obtain ⟨x33_2, rfl, HA, HK2, zaz, HB⟩ := hrel
     cases gk with
     | zero => exact absurd HA.out (by simp [pleachref35_Is_p.l0])
     | succ k2 =>
      have H := HA.out
      clear HA
      simp only [pleachref35_Is_p.l0] at H
      by_cases c15 : x33_2 < (l0_1.length : Int)
      ·rw [if_pos c15] at H
       have c15b0 := decide_eq_true c15
       clear c15
       by_cases c16 : 0 ≤ x33_2
       ·rw [if_pos c16] at H
        have c16b0 := decide_eq_true c16
        clear c16
        by_cases c17 : x33_2 < (l0_1.length : Int)
        ·rw [if_pos c17] at H
         have c17b0 := decide_eq_true c17
         clear c17
         by_cases c18 : ((rdOf ByteArray.empty l0_1 x33_2).size : Int) = 32
         ·rw [if_pos c18] at H
          have c18b0 : (((rdOf ByteArray.empty l0_1 x33_2).size : Int) == 32) = true := beq_iff_eq.mpr c18
          have c18b1 : (((rdOf ByteArray.empty l0_1 x33_2).size : Int) != 32) = false := bne_eq_false_iff_eq.mpr c18
          clear c18
          have H' := Aside0.mk H
          clear H
          have zbo : wr.cell? ⟨zay, 0, none⟩ = some (.int .i64 a0_0) := (blk_cell zaz.out 0).trans rfl
          have zbp : wr.cell? ⟨zay, 1, none⟩ = some (.slice A0_1 l0_1.length c0_1) := (blk_cell zaz.out 1).trans rfl
          have zbq : wr.cell? ⟨zay, 2, none⟩ = some (.string a0_2) := (blk_cell zaz.out 2).trans rfl
          have zbr : wr.cell? ⟨zay, 3, none⟩ = some (.string a0_3) := (blk_cell zaz.out 3).trans rfl
          have zbs := blk_frozen zaz.out 0
          have zbt := blk_frozen zaz.out 1
          have zbu := blk_frozen zaz.out 2
          have zbv := blk_frozen zaz.out 3
          have p403 : 0 ≤ (x33_2 : Int) := M.dt
          have q403 : x33_2 < (l0_1.length : Int) := M.dt
          obtain ⟨ad403, e403, hx403_0⟩ := Kd.at_string HR0_1.out x33_2 p403 q403
          cases e403
          replace hx403_0 := M.hc HB hx403_0
          replace p403 := eq_true p403
          replace q403 := eq_true q403
          go_wp2
          repeat (go_quiet (fail); try go_wp2)
          go_roundg k2
          case measure => have := HJ1.out; have := HK2.out; omega
          case rel => exact ⟨(wrap64 (x33_2 + 1)), M.eqv, H', ⟨by have := HJ1.out; have := HK2.out; omega⟩, ⟨M.bk zaz⟩, ⟨M.up HB⟩⟩
         ·rw [if_neg c18] at H
          have c18b0 : (((rdOf ByteArray.empty l0_1 x33_2).size : Int) == 32) = false := beq_eq_false_iff_ne.mpr c18
          have c18b1 : (((rdOf ByteArray.empty l0_1 x33_2).size : Int) != 32) = true := bne_iff_ne.mpr c18
          obtain rfl := Option.some.inj H
          have zae : wr.cell? ⟨zay, 0, none⟩ = some (.int .i64 a0_0) := (blk_cell zaz.out 0).trans rfl
          have zaf : wr.cell? ⟨zay, 1, none⟩ = some (.slice A0_1 l0_1.length c0_1) := (blk_cell zaz.out 1).trans rfl
          have zag : wr.cell? ⟨zay, 2, none⟩ = some (.string a0_2) := (blk_cell zaz.out 2).trans rfl
          have zah : wr.cell? ⟨zay, 3, none⟩ = some (.string a0_3) := (blk_cell zaz.out 3).trans rfl
          have zai := blk_frozen zaz.out 0
          have zaj := blk_frozen zaz.out 1
          have zak := blk_frozen zaz.out 2
          have zal := blk_frozen zaz.out 3
          have p403 : 0 ≤ (x33_2 : Int) := M.dt
          have q403 : x33_2 < (l0_1.length : Int) := M.dt
          obtain ⟨ad403, e403, hx403_0⟩ := Kd.at_string HR0_1.out x33_2 p403 q403
          cases e403
          replace hx403_0 := M.hc HB hx403_0
          replace p403 := eq_true p403
          replace q403 := eq_true q403
          go_wp2
          repeat (go_quiet (fail); try go_wp2)
          go_ret
          exact M.fin (M.up HB)
        ·exact M.nf c17 H
       ·exact M.nf c16 H
      ·rw [if_neg c15] at H
       have c15b0 := decide_eq_false c15
       clear c15
       by_cases c21 : (l0_1.length : Int) < 2
       ·rw [if_pos c21] at H
        have c21b0 := decide_eq_true c21
        have c21b1 : decide (l0_1.length < 2) = true := decide_eq_true (by omega)
        clear c21
        obtain rfl := Option.some.inj H
        have zam : wr.cell? ⟨zay, 0, none⟩ = some (.int .i64 a0_0) := (blk_cell zaz.out 0).trans rfl
        have zan : wr.cell? ⟨zay, 1, none⟩ = some (.slice A0_1 l0_1.length c0_1) := (blk_cell zaz.out 1).trans rfl
        have zao : wr.cell? ⟨zay, 2, none⟩ = some (.string a0_2) := (blk_cell zaz.out 2).trans rfl
        have zap : wr.cell? ⟨zay, 3, none⟩ = some (.string a0_3) := (blk_cell zaz.out 3).trans rfl
        have zaq := blk_frozen zaz.out 0
        have zar := blk_frozen zaz.out 1
        have zas := blk_frozen zaz.out 2
        have zat := blk_frozen zaz.out 3
        go_wp2
        repeat (go_quiet (fail); try go_wp2)
        go_ret
        exact M.fin (M.up HB)
       ·rw [if_neg c21] at H
        have c21b0 := decide_eq_false c21
        have c21b1 : decide (l0_1.length < 2) = false := decide_eq_false (by omega)
        clear c21
        by_cases c23 : 0 < (l0_1.length : Int)
        ·rw [if_pos c23] at H
         have c23b0 := decide_eq_true c23
         have c23b1 : decide (0 < l0_1.length) = true := decide_eq_true (by omega)
         clear c23
         by_cases c24 : 1 < (l0_1.length : Int)
         ·rw [if_pos c24] at H
          have c24b0 := decide_eq_true c24
          have c24b1 : decide (1 < l0_1.length) = true := decide_eq_true (by omega)
          clear c24
          obtain rfl := Option.some.inj H
          have zbw : wr.cell? ⟨zay, 0, none⟩ = some (.int .i64 a0_0) := (blk_cell zaz.out 0).trans rfl
          have zbx : wr.cell? ⟨zay, 1, none⟩ = some (.slice A0_1 l0_1.length c0_1) := (blk_cell zaz.out 1).trans rfl
          have zby : wr.cell? ⟨zay, 2, none⟩ = some (.string a0_2) := (blk_cell zaz.out 2).trans rfl
          have zbz : wr.cell? ⟨zay, 3, none⟩ = some (.string a0_3) := (blk_cell zaz.out 3).trans rfl
          have zbA := blk_frozen zaz.out 0
          have zbB := blk_frozen zaz.out 1
          have zbC := blk_frozen zaz.out 2
          have zbD := blk_frozen zaz.out 3
          have p401 : 0 ≤ (0 : Int) := (by omega)
          have q401 : 0 < (l0_1.length : Int) := M.dt
          obtain ⟨ad401, e401, hx401_0⟩ := Kd.at_string HR0_1.out 0 p401 q401
          cases e401
          have qi401 : (0 < l0_1.length) = True := eq_true (by omega)
          (try rw [show ((0 : Int)).toNat = 0 from rfl] at hx401_0)
          (try rw [Addr.add_zero'] at hx401_0)
          replace hx401_0 := M.hc HB hx401_0
          replace p401 := eq_true p401
          replace q401 := eq_true q401
          have p402 : 0 ≤ (1 : Int) := (by omega)
          have q402 : 1 < (l0_1.length : Int) := M.dt
          obtain ⟨ad402, e402, hx402_0⟩ := Kd.at_string HR0_1.out 1 p402 q402
          obtain rfl : ad401 = ad402 := (by injection e402)
          (try simp only [show (1 : Int).toNat = 1 from rfl, Nat.reduceMul, Nat.reduceEqDiff, Go.Addr.add, ↓reduceIte] at hx402_0)
          have qi402 : (1 < l0_1.length) = True := eq_true (by omega)
          (try rw [show ((1 : Int)).toNat = 1 from rfl] at hx402_0)
          replace hx402_0 := M.hc HB hx402_0
          replace p402 := eq_true p402
          replace q402 := eq_true q402
          go_wp2
          repeat (go_quiet (fail); try go_wp2)
          go_ret
          exact M.fin (M.up HB)
         ·exact M.nf c24 H
        ·exact M.nf c23 H
def pleachref35_Is.f (a0_0 : Int) (l0_1 : List ByteArray) (a0_2 : ByteArray) (a0_3 : ByteArray) : Option Bool := some (decide (M.isC a0_0 l0_1 a0_2 a0_3))
theorem pleachref35_Is.ne {a b : ByteArray} : (a.toList != b.toList) = decide (a ≠ b) := by
 by_cases h : a = b
 ·subst h; simp
 ·rw [decide_eq_true h, bne_iff_ne, M.toList_bs, M.toList_bs]
  exact fun e => h (M.bs_inj e)
theorem pleachref35_Is.loop (n : Int) (ps : List ByteArray) (g note : ByteArray) (hl : ps.length ≤ 2) :
    pleachref35_Is_p.l0 9 (ps.length : Int) 0 n ps g note = some (decide ((∀ p ∈ ps, p.size = 32) ∧ (ps.length = 2 → ps.getD 0 ByteArray.empty ≠ ps.getD 1 ByteArray.empty))) := by
 match ps, hl with
 | [], _ => rw [pleachref35_Is_p.l0, if_neg (by simp), if_pos (by simp), decide_eq_true ⟨by simp, by simp⟩]
 | [a], _ =>
  have r0 : rdOf ByteArray.empty [a] 0 = a := rfl
  rw [pleachref35_Is_p.l0, if_pos (by simp), if_pos (by decide), if_pos (by simp), r0]
  by_cases ha : a.size = 32
  ·rw [if_pos (by omega), show wrap64 (0 + 1) = 1 from M.wrap64_id (i := 1) (by decide) (by decide), pleachref35_Is_p.l0, if_neg (by simp), if_pos (by simp), decide_eq_true ⟨by simp [ha], by simp⟩]
  ·rw [if_neg (by omega), decide_eq_false (fun z => ha (z.1 a List.mem_cons_self))]
 | [a, b], _ =>
  have r0 : rdOf ByteArray.empty [a, b] 0 = a := rfl
  have r1 : rdOf ByteArray.empty [a, b] 1 = b := rfl
  rw [pleachref35_Is_p.l0, if_pos (by simp), if_pos (by decide), if_pos (by simp), r0]
  by_cases ha : a.size = 32
  ·rw [if_pos (by omega), show wrap64 (0 + 1) = 1 from M.wrap64_id (i := 1) (by decide) (by decide), pleachref35_Is_p.l0, if_pos (by simp), if_pos (by decide), if_pos (by simp), r1]
   by_cases hb : b.size = 32
   ·rw [if_pos (by omega), show wrap64 (1 + 1) = 2 from M.wrap64_id (i := 2) (by decide) (by decide), pleachref35_Is_p.l0, if_neg (by simp), if_neg (by simp), if_pos (by simp), if_pos (by simp), r0, r1, pleachref35_Is.ne]
    congr 1
    exact decide_eq_decide.2 ⟨fun h => ⟨by simp [ha, hb], fun _ => h⟩, fun h => h.2 rfl⟩
   ·rw [if_neg (by omega), decide_eq_false (fun z => hb (z.1 b (by simp)))]
  ·rw [if_neg (by omega), decide_eq_false (fun z => ha (z.1 a List.mem_cons_self))]
theorem pleachref35_Is.ev (n : Int) (ps : List ByteArray) (g note : ByteArray) (r : Bool) (h : pleachref35_Is.f n ps g note = some r) : ∃ k, pleachref35_Is_p.f k n ps g note = some r := by
 unfold pleachref35_Is.f at h
 obtain rfl := Option.some.inj h
 refine ⟨10, ?_⟩
 unfold pleachref35_Is_p.f
 by_cases c1 : n < 1
 ·rw [if_pos c1, pleachref35_Is_p.j0, if_pos rfl, decide_eq_false (fun z => by have := z.1.1; omega)]
 rw [if_neg c1]
 by_cases c2 : n > 4294967295
 ·rw [if_pos c2, pleachref35_Is_p.j0, if_pos rfl, decide_eq_false (fun z => by have := z.1.2; omega)]
 rw [if_neg c2]
 by_cases c3 : ps.length > 2
 ·rw [if_pos (by omega), pleachref35_Is_p.j0, if_pos rfl, decide_eq_false (fun z => by have := z.2.1; omega)]
 rw [if_neg (by omega)]
 by_cases c4 : g.size = 32
 ·rw [if_pos (by omega), pleachref35_Is_p.j0]
  by_cases c5 : note.size > 40
  ·rw [if_pos (decide_eq_true (by omega)), decide_eq_false (fun z => by have := z.2.2.2.1; omega)]
  ·rw [if_neg (by simp; omega), pleachref35_Is.loop n ps g note (by omega)]
   congr 1
   exact decide_eq_decide.2 ⟨fun c6 => ⟨⟨by omega, by omega⟩, by omega, c4, by omega, c6⟩, fun z => z.2.2.2.2⟩
 ·rw [if_neg (by omega), pleachref35_Is_p.j0, if_pos rfl, decide_eq_false (fun z => c4 z.2.2.1)]
theorem pleachref35_Is.calls (a0_0 : Int) (A0_1 : Option Addr) (c0_1 : Nat) (l0_1 : List ByteArray) (a0_2 : ByteArray) (a0_3 : ByteArray) (r : Bool) (w : World) (hr0_1 : Kd.C Kd.string w A0_1 l0_1.length l0_1) (hc0_1 : l0_1.length ≤ c0_1) (h : pleachref35_Is.f a0_0 l0_1 a0_2 a0_3 = some r) :
    Calls Tryd.prog 55 #[.agg #[.int .i64 a0_0, .slice A0_1 l0_1.length c0_1, .string a0_2, .string a0_3]] w fun e w' => e = .returned (.bool r) ∧ Below w.heap.size w w' := by
 obtain ⟨k, hk⟩ := pleachref35_Is.ev _ _ _ _ _ h
 exact pleachref35_Is_p.calls (k := k) (w := w) (h := hk) (hr0_1 := hr0_1) (hc0_1 := hc0_1)
def pleachref35_Put_p.l0 : Nat → ByteArray → List ByteArray → Int → Int → Int → List ByteArray → ByteArray → ByteArray → Option (ByteArray)
  | 0, _, _, _, _, _, _, _, _ => none
  | k + 1, x3, x19, x20, x21, zaa, zab, zac, zad => if x21 < x20 then (if 0 ≤ x21 then (if x21 < (x19.length : Int) then (if x3.size + (rdOf ByteArray.empty x19 x21).size ≤ 9223372036854775807 then (pleachref35_Put_p.l0 k (x3 ++ (rdOf ByteArray.empty x19 x21)) x19 x20 (wrap64 (x21 + 1)) zaa zab zac zad) else (none)) else (none)) else (none)) else (if x3.size + zac.size ≤ 9223372036854775807 then ((pleachref04_PutText.f zad).bind fun t409 => (if (x3 ++ zac).size + t409.size ≤ 9223372036854775807 then (some ((x3 ++ zac) ++ t409)) else (none))) else (none))
def pleachref35_Put_p.f (k : Nat) (a0_0 : Int) (l0_1 : List ByteArray) (a0_2 : ByteArray) (a0_3 : ByteArray) : Option (ByteArray) := (pleachref35_Is.f a0_0 l0_1 a0_2 a0_3).bind fun t405 => (if t405 = true then ((pleachref04_PutNum.f a0_0).bind fun t406 => (if 1 + t406.size ≤ 9223372036854775807 then ((pleachref04_PutNum.f (l0_1.length : Int)).bind fun t407 => (if ((⟨#[67]⟩ : ByteArray) ++ t406).size + t407.size ≤ 9223372036854775807 then (pleachref35_Put_p.l0 k (((⟨#[67]⟩ : ByteArray) ++ t406) ++ t407) l0_1 (l0_1.length : Int) 0 a0_0 l0_1 a0_2 a0_3) else (none))) else (none))) else (some (⟨#[]⟩ : ByteArray)))
theorem pleachref35_Put_p.mono_l : ∀ k, (∀ y0 y1 y2 y3 y4 y5 y6 y7, LeO (pleachref35_Put_p.l0 k y0 y1 y2 y3 y4 y5 y6 y7) (pleachref35_Put_p.l0 (k + 1) y0 y1 y2 y3 y4 y5 y6 y7))
  | 0 => fun _ _ _ _ _ _ _ _ r h => by simp [pleachref35_Put_p.l0] at h
  | k + 1 => by
    have ih0 := pleachref35_Put_p.mono_l k
    · intro y0 y1 y2 y3 y4 y5 y6 y7
      unfold pleachref35_Put_p.l0
      repeat' first
      | (with_reducible exact ih0 _ _ _ _ _ _ _ _)
      | (with_reducible exact LeO.refl _)
      | (with_reducible exact LeO.none _)
      | (with_reducible refine LeO.ite ?_ ?_)
      | (with_reducible refine LeO.bind ?_ (fun _ => ?_))
      | exact ih0 _ _ _ _ _ _ _ _
      | exact LeO.none _
      | refine LeO.ite ?_ ?_
      | refine LeO.bind ?_ (fun _ => ?_)
theorem pleachref35_Put_p.mono : ∀ a0 a1 a2 a3 k, LeO (pleachref35_Put_p.f k a0 a1 a2 a3) (pleachref35_Put_p.f (k + 1) a0 a1 a2 a3) := by
  intro a0 a1 a2 a3 k
  have ih0 := pleachref35_Put_p.mono_l k
  unfold pleachref35_Put_p.f
  repeat' first
      | (with_reducible exact ih0 _ _ _ _ _ _ _ _)
      | (with_reducible exact LeO.refl _)
      | (with_reducible exact LeO.none _)
      | (with_reducible refine LeO.ite ?_ ?_)
      | (with_reducible refine LeO.bind ?_ (fun _ => ?_))
      | exact ih0 _ _ _ _ _ _ _ _
      | exact LeO.none _
      | refine LeO.ite ?_ ?_
      | refine LeO.bind ?_ (fun _ => ?_)
def pleachref35_Put_p.T3 : Bool × List (List Nat × List Nat) := (true, [([], []), ([0], [0]), ([1], [1]), ([2], [2]), ([], []), ([4], [4]), ([5], [5]), ([6, 2], [6]), ([3, 7], [3, 7]), ([8, 7, 0, 1, 2, 3, 4, 5, 6, 7, 8], [8])])
def pleachref35_Put_p.B3 : List Nat := [0, 1, 3, 7, 0, 16, 48, 119, 255, 511]
theorem pleachref35_Put_p.tab3 : rtab .any (opsOf Tryd.f37 3) = pleachref35_Put_p.T3 := by kernel_rfl
theorem pleachref35_Put_p.bits3 : waitsOk pleachref35_Put_p.T3.2 pleachref35_Put_p.B3 = true := by kernel_rfl
def pleachref35_Put_p.T9 : Bool × List (List Nat × List Nat) := (true, [([], []), ([], []), ([1], [1]), ([0, 2], [0, 2]), ([], []), ([4], [4]), ([5], [5]), ([3, 6], [3, 6]), ([7, 6, 0, 1, 2, 3, 4, 5, 6, 7], [7])])
def pleachref35_Put_p.B9 : List Nat := [0, 0, 2, 7, 0, 16, 48, 127, 255]
theorem pleachref35_Put_p.tab9 : rtab .any (opsOf Tryd.f37 9) = pleachref35_Put_p.T9 := by kernel_rfl
theorem pleachref35_Put_p.bits9 : waitsOk pleachref35_Put_p.T9.2 pleachref35_Put_p.B9 = true := by kernel_rfl
set_option maxHeartbeats 8000000 in
set_option maxRecDepth 100000 in
theorem pleachref35_Put_p.calls (k : Nat) (a0_0 : Int) (A0_1 : Option Addr) (c0_1 : Nat) (l0_1 : List ByteArray) (a0_2 : ByteArray) (a0_3 : ByteArray) (r : ByteArray) (w : World) (hr0_1 : Kd.C Kd.string w A0_1 l0_1.length l0_1) (hc0_1 : l0_1.length ≤ c0_1) (h : pleachref35_Put_p.f k a0_0 l0_1 a0_2 a0_3 = some r) :
    Calls Tryd.prog 37 #[.agg #[.int .i64 a0_0, .slice A0_1 l0_1.length c0_1, .string a0_2, .string a0_3]] w fun e w' => e = .returned (.string r) ∧ Below w.heap.size w w' := by
 have hu49 := Tryd.underlying49
 have HR0_1 := Aside0.mk hr0_1
 have HC0_1 := Aside0.mk hc0_1
 clear hr0_1 hc0_1
 have HB := Aside0.mk (Below.refl w.heap.size w)
 have H : ((pleachref35_Is.f a0_0 l0_1 a0_2 a0_3).bind fun t405 => (if t405 = true then ((pleachref04_PutNum.f a0_0).bind fun t406 => (if 1 + t406.size ≤ 9223372036854775807 then ((pleachref04_PutNum.f (l0_1.length : Int)).bind fun t407 => (if ((⟨#[67]⟩ : ByteArray) ++ t406).size + t407.size ≤ 9223372036854775807 then (pleachref35_Put_p.l0 k (((⟨#[67]⟩ : ByteArray) ++ t406) ++ t407) l0_1 (l0_1.length : Int) 0 a0_0 l0_1 a0_2 a0_3) else (none))) else (none))) else (some (⟨#[]⟩ : ByteArray)))) = some r := h
 clear h
 replace H := Option.bind_eq_some_iff.mp H
 obtain ⟨t405, A20, H⟩ := H
 replace H : (if t405 = true then ((pleachref04_PutNum.f a0_0).bind fun t406 => (if 1 + t406.size ≤ 9223372036854775807 then ((pleachref04_PutNum.f (l0_1.length : Int)).bind fun t407 => (if ((⟨#[67]⟩ : ByteArray) ++ t406).size + t407.size ≤ 9223372036854775807 then (pleachref35_Put_p.l0 k (((⟨#[67]⟩ : ByteArray) ++ t406) ++ t407) l0_1 (l0_1.length : Int) 0 a0_0 l0_1 a0_2 a0_3) else (none))) else (none))) else (some (⟨#[]⟩ : ByteArray))) = some r := H
 have A2 := Aside0.mk A20
 clear A20
 by_cases c3 : t405 = true
 ·subst c3
  have H1 : ((pleachref04_PutNum.f a0_0).bind fun t406 => (if 1 + t406.size ≤ 9223372036854775807 then ((pleachref04_PutNum.f (l0_1.length : Int)).bind fun t407 => (if ((⟨#[67]⟩ : ByteArray) ++ t406).size + t407.size ≤ 9223372036854775807 then (pleachref35_Put_p.l0 k (((⟨#[67]⟩ : ByteArray) ++ t406) ++ t407) l0_1 (l0_1.length : Int) 0 a0_0 l0_1 a0_2 a0_3) else (none))) else (none))) = some r := by rw [if_pos rfl] at H; exact H
  clear H
  have H := H1
  clear H1
  replace H := Option.bind_eq_some_iff.mp H
  obtain ⟨t406, A40, H⟩ := H
  replace H : (if 1 + t406.size ≤ 9223372036854775807 then ((pleachref04_PutNum.f (l0_1.length : Int)).bind fun t407 => (if ((⟨#[67]⟩ : ByteArray) ++ t406).size + t407.size ≤ 9223372036854775807 then (pleachref35_Put_p.l0 k (((⟨#[67]⟩ : ByteArray) ++ t406) ++ t407) l0_1 (l0_1.length : Int) 0 a0_0 l0_1 a0_2 a0_3) else (none))) else (none)) = some r := H
  have A4 := Aside0.mk A40
  clear A40
  by_cases c5 : 1 + t406.size ≤ 9223372036854775807
  ·rw [if_pos c5] at H
   have c5b0 := eq_true c5
   have c5b1 := decide_eq_true c5
   try have c5b2 : (9223372036854775807 < 1 + t406.size) = False := eq_false (Nat.not_lt.2 c5)
   replace H := Option.bind_eq_some_iff.mp H
   obtain ⟨t407, A60, H⟩ := H
   replace H : (if ((⟨#[67]⟩ : ByteArray) ++ t406).size + t407.size ≤ 9223372036854775807 then (pleachref35_Put_p.l0 k (((⟨#[67]⟩ : ByteArray) ++ t406) ++ t407) l0_1 (l0_1.length : Int) 0 a0_0 l0_1 a0_2 a0_3) else (none)) = some r := H
   have A6 := Aside0.mk A60
   clear A60
   by_cases c7 : ((⟨#[67]⟩ : ByteArray) ++ t406).size + t407.size ≤ 9223372036854775807
   ·rw [if_pos c7] at H
    have c7b0 := eq_true c7
    have c7b1 := decide_eq_true c7
    try have c7b2 : (9223372036854775807 < ((⟨#[67]⟩ : ByteArray) ++ t406).size + t407.size) = False := eq_false (Nat.not_lt.2 c7)
    have c7m := c7
    (try simp only [ByteArray.size_append, show (⟨#[67]⟩ : ByteArray).size = 1 from rfl] at c7m)
    have c7b3 := eq_true c7m
    have c7b4 := eq_false (Nat.not_lt.2 c7m)
    have c7b5 := decide_eq_true c7m
    have H' := Aside0.mk H
    clear H
    go_enter Tryd.func37, Tryd.ntmps37
    try go_wp2_with (first | ((with_reducible refine gate_dst (N := 1) rfl ?_); refine M.bx 1 49 (#[.int .i64 a0_0, .slice A0_1 l0_1.length c0_1, .string a0_2, .string a0_3]) ?_; intro zae hg w8 hbox hb; have zaf := Aside0.mk (hbox); have zag := M.upG HB hg; have zah := M.upG HB hg; replace HB := M.upS HB hb; clear hb hbox hg; have zai : w8.cell? ⟨zae, 0, none⟩ = some (.int .i64 a0_0) := (blk_cell zaf.out 0).trans rfl; have zaj : w8.cell? ⟨zae, 1, none⟩ = some (.slice A0_1 l0_1.length c0_1) := (blk_cell zaf.out 1).trans rfl; have zak : w8.cell? ⟨zae, 2, none⟩ = some (.string a0_2) := (blk_cell zaf.out 2).trans rfl; have zal : w8.cell? ⟨zae, 3, none⟩ = some (.string a0_3) := (blk_cell zaf.out 3).trans rfl; have zam := blk_frozen zaf.out 0; have zan := blk_frozen zaf.out 1; have zao := blk_frozen zaf.out 2; have zap := blk_frozen zaf.out 3) | ((with_reducible refine gate_callee (f := 55) rfl ?_); refine M.goes (some 7) Tryd.func55 #[.agg #[.int .i64 a0_0, .slice A0_1 l0_1.length c0_1, .string a0_2, .string a0_3]] rfl ?_; (with_reducible refine (pleachref35_Is.calls a0_0 _ _ l0_1 a0_2 a0_3 true _ ?side1 ?side2 A2.out).mono ?_); (case side1 => exact M.cB HR0_1 HB); (case side2 => exact HC0_1.out); rintro e w10 ⟨rfl, hb⟩; refine ⟨_, rfl, ?_⟩; replace zaf := M.bkB zaf hb; replace HB := M.upS HB hb; (try clear hb)))
    replace zaf := Aside0.mk (blk_drew zaf.out); replace HB := Aside0.mk (below_drew1 HB.out)
    refine start_ (n := 10) (S := fun w' => w'.cell? ⟨zae, 0, none⟩ = some (.int .i64 a0_0) ∧ w'.cell? ⟨zae, 1, none⟩ = some (.slice A0_1 l0_1.length c0_1) ∧ w'.cell? ⟨zae, 2, none⟩ = some (.string a0_2) ∧ w'.cell? ⟨zae, 3, none⟩ = some (.string a0_3)) (ds := []) #[false, false, false, false, false, false, false, false, false, false] (by kernel_rfl) rfl rfl ⟨(blk_cell zaf.out 0).trans rfl, (blk_cell zaf.out 1).trans rfl, (blk_cell zaf.out 2).trans rfl, (blk_cell zaf.out 3).trans rfl⟩ (fun hHeld => ?_); refine with_tabW pleachref35_Put_p.tab3 pleachref35_Put_p.bits3 (fun HT_ HW_ => ?_)
    generalize w10.drew = w11 at zaf HB hHeld ⊢
    refine M.pu 0 9 [1, 9] HT_ ?_
    refine M.pu 4 13 [1, 3, 1, 5] HT_ ?_
    refine M.tk 1 10 [2, 2, 1, 5] HT_ HW_ hHeld ?_
    refine M.tk 5 14 [2, 2, 2, 4] HT_ HW_ hHeld ?_
    refine M.pu 6 15 [2, 2, 3, 3] HT_ ?_
    refine one_ (i := 2) (N := some 11) #[true, true, true, false, true, true, true, false, false, false] rfl rfl (one_of HT_.out (by kernel_rfl)) (by decide) (fun K hK => ?_)
    refine goes_ Tryd.func53 (by kernel_rfl) rfl #[.int .i64 a0_0] (by rfl) rfl rfl (by (try simp only [List.map_toArray, List.map_cons, List.map_nil]); first | done | rfl | (simp only [List.length_drop, List.length_take]; rfl)) ?_
    with_reducible refine (pleachref04_PutNum.calls a0_0 t406 _ A4.out).mono ?_
    rintro e w12 ⟨rfl, hb⟩
    refine ⟨_, rfl, ?_⟩
    replace zaf := M.bkB zaf hb; replace HB := M.upS HB hb
    (try clear hb)
    (try clear hb2)
    (try clear hk)
    (try clear hi)
    refine hK.out _ _ ⟨(blk_cell zaf.out 0).trans rfl, (blk_cell zaf.out 1).trans rfl, (blk_cell zaf.out 2).trans rfl, (blk_cell zaf.out 3).trans rfl⟩ (fun hHeld => ?_)
    clear hK K
    refine norm_ (a' := ?_) ?_ ?_
    rotate_left
    ·show Act.put _ (some 11) _ = _
     simp only [Act.put, List.setIfInBounds_toArray, List.set_cons_zero, List.set_cons_succ, i64_w, i32_w]
     rfl
    refine M.pu 3 12 [7, 3] HT_ ?_
    refine one_ (i := 7) (N := some 16) #[true, true, true, true, true, true, true, true, false, false] rfl rfl (one_of HT_.out (by kernel_rfl)) (by decide) (fun K hK => ?_)
    refine goes_ Tryd.func53 (by kernel_rfl) rfl #[.int .i64 (l0_1.length : Int)] (by rfl) rfl rfl (by (try simp only [List.map_toArray, List.map_cons, List.map_nil]); first | done | rfl | (simp only [List.length_drop, List.length_take]; rfl)) ?_
    with_reducible refine (pleachref04_PutNum.calls (l0_1.length : Int) t407 _ A6.out).mono ?_
    rintro e w13 ⟨rfl, hb⟩
    refine ⟨_, rfl, ?_⟩
    replace zaf := M.bkB zaf hb; replace HB := M.upS HB hb
    (try clear hb)
    (try clear hb2)
    (try clear hk)
    (try clear hi)
    refine hK.out _ _ ⟨(blk_cell zaf.out 0).trans rfl, (blk_cell zaf.out 1).trans rfl, (blk_cell zaf.out 2).trans rfl, (blk_cell zaf.out 3).trans rfl⟩ (fun hHeld => ?_)
    clear hK K
    refine norm_ (a' := ?_) ?_ ?_
    rotate_left
    ·show Act.put _ (some 16) _ = _
     simp only [Act.put, List.setIfInBounds_toArray, List.set_cons_zero, List.set_cons_succ, i64_w, i32_w]
     rfl
    refine M.pu 8 17 [9, 1] HT_ ?_
    refine M.pu 9 3 [10] HT_ ?_
    refine done_ (done_of HT_.out (by kernel_rfl)) ?_
    have zaq : w13.cell? ⟨zae, 0, none⟩ = some (.int .i64 a0_0) := (blk_cell zaf.out 0).trans rfl
    have zar : w13.cell? ⟨zae, 1, none⟩ = some (.slice A0_1 l0_1.length c0_1) := (blk_cell zaf.out 1).trans rfl
    have zas : w13.cell? ⟨zae, 2, none⟩ = some (.string a0_2) := (blk_cell zaf.out 2).trans rfl
    have zat : w13.cell? ⟨zae, 3, none⟩ = some (.string a0_3) := (blk_cell zaf.out 3).trans rfl
    have zau := blk_frozen zaf.out 0
    have zav := blk_frozen zaf.out 1
    have zaw := blk_frozen zaf.out 2
    have zax := blk_frozen zaf.out 3
    try go_wp2
    go_loopg [3, 21] k (fun kq v3 v21 w' => ∃ (x3_1 : ByteArray) (x21_1 : Int), v3 = .string x3_1 ∧ v21 = .int .i64 x21_1 ∧ Aside0 (pleachref35_Put_p.l0 kq x3_1 l0_1 (l0_1.length : Int) x21_1 a0_0 l0_1 a0_2 a0_3 = some r) ∧ Aside0 (kq ≤ k) ∧ Aside0 (w'.heap[zae]? = some (.cells #[.int .i64 a0_0, (.slice A0_1 l0_1.length c0_1), .string a0_2, .string a0_3] 49 (0, 0))) ∧ Aside0 (Below w.heap.size w w'))
    case atStart => exact ⟨(((⟨#[67]⟩ : ByteArray) ++ t406) ++ t407), (0), M.eqv, M.eqv, H', ⟨Nat.le_refl _⟩, ⟨M.bk zaf⟩, ⟨M.up HB⟩⟩
    case round =>
     clear H'
     (try clear p2); (try clear c3); (try clear c5); (try clear c5b0); (try clear c5b1); (try clear c5b2); (try clear c7); (try clear c7b0); (try clear c7b1); (try clear c7b2); (try clear zaq); (try clear zar); (try clear zas); (try clear zat); (try clear zai); (try clear zaj); (try clear zak); (try clear zal); (try clear zau); (try clear zav); (try clear zaw); (try clear zax); (try clear zam); (try clear zan); (try clear zao); (try clear zap)
     obtain ⟨x3_1, x21_1, rfl, rfl, HA, HK1, zaf, HB⟩ := hrel
     cases gk with
     | zero => exact absurd HA.out (by simp [pleachref35_Put_p.l0])
     | succ k1 =>
      have H := HA.out
      clear HA
      simp only [pleachref35_Put_p.l0] at H
      by_cases c15 : x21_1 < (l0_1.length : Int)
      ·rw [if_pos c15] at H
       have c15b0 := decide_eq_true c15
       clear c15
       by_cases c16 : 0 ≤ x21_1
       ·rw [if_pos c16] at H
        have c16b0 := decide_eq_true c16
        clear c16
        by_cases c17 : x21_1 < (l0_1.length : Int)
        ·rw [if_pos c17] at H
         have c17b0 := decide_eq_true c17
         clear c17
         by_cases c18 : x3_1.size + (rdOf ByteArray.empty l0_1 x21_1).size ≤ 9223372036854775807
         ·rw [if_pos c18] at H
          have c18b0 := eq_true c18
          have c18b1 := decide_eq_true c18
          try have c18b2 : (9223372036854775807 < x3_1.size + (rdOf ByteArray.empty l0_1 x21_1).size) = False := eq_false (Nat.not_lt.2 c18)
          have H' := Aside0.mk H
          clear H
          have p408 : 0 ≤ (x21_1 : Int) := M.dt
          have q408 : x21_1 < (l0_1.length : Int) := M.dt
          obtain ⟨ad408, e408, hx408_0⟩ := Kd.at_string HR0_1.out x21_1 p408 q408
          cases e408
          replace hx408_0 := M.hc HB hx408_0
          replace p408 := eq_true p408
          replace q408 := eq_true q408
          go_wp2
          go_roundg k1
          case measure => have := HK1.out; omega
          case rel => exact ⟨(x3_1 ++ (rdOf ByteArray.empty l0_1 x21_1)), (wrap64 (x21_1 + 1)), M.eqv, M.eqv, H', ⟨by have := HK1.out; omega⟩, ⟨M.bk zaf⟩, ⟨M.up HB⟩⟩
         ·exact M.nf c18 H
        ·exact M.nf c17 H
       ·exact M.nf c16 H
      ·rw [if_neg c15] at H
       have c15b0 := decide_eq_false c15
       clear c15
       by_cases c19 : x3_1.size + a0_2.size ≤ 9223372036854775807
       ·rw [if_pos c19] at H
        have c19b0 := eq_true c19
        have c19b1 := decide_eq_true c19
        try have c19b2 : (9223372036854775807 < x3_1.size + a0_2.size) = False := eq_false (Nat.not_lt.2 c19)
        replace H := Option.bind_eq_some_iff.mp H
        obtain ⟨t409, A200, H⟩ := H
        replace H : (if (x3_1 ++ a0_2).size + t409.size ≤ 9223372036854775807 then (some ((x3_1 ++ a0_2) ++ t409)) else (none)) = some r := H
        have A20 := Aside0.mk A200
        clear A200
        by_cases c21 : (x3_1 ++ a0_2).size + t409.size ≤ 9223372036854775807
        ·rw [if_pos c21] at H
         have c21b0 := eq_true c21
         have c21b1 := decide_eq_true c21
         try have c21b2 : (9223372036854775807 < (x3_1 ++ a0_2).size + t409.size) = False := eq_false (Nat.not_lt.2 c21)
         have c21m := c21
         (try simp only [ByteArray.size_append] at c21m)
         have c21b3 := eq_true c21m
         have c21b4 := eq_false (Nat.not_lt.2 c21m)
         have c21b5 := decide_eq_true c21m
         obtain rfl := Option.some.inj H
         try go_wp2
         replace zaf := Aside0.mk (blk_drew zaf.out); replace HB := Aside0.mk (below_drew1 HB.out)
         refine start_ (n := 9) (S := fun w' => w'.cell? ⟨zae, 0, none⟩ = some (.int .i64 a0_0) ∧ w'.cell? ⟨zae, 1, none⟩ = some (.slice A0_1 l0_1.length c0_1) ∧ w'.cell? ⟨zae, 2, none⟩ = some (.string a0_2) ∧ w'.cell? ⟨zae, 3, none⟩ = some (.string a0_3)) (ds := []) #[false, false, false, false, false, false, false, false, false] (by kernel_rfl) rfl rfl ⟨(blk_cell zaf.out 0).trans rfl, (blk_cell zaf.out 1).trans rfl, (blk_cell zaf.out 2).trans rfl, (blk_cell zaf.out 3).trans rfl⟩ (fun hHeld => ?_); refine with_tabW pleachref35_Put_p.tab9 pleachref35_Put_p.bits9 (fun HT_ HW_ => ?_)
         generalize wr.drew = w22 at zaf HB hHeld ⊢
         refine M.pu 0 29 [1, 8] HT_ ?_
         refine M.pu 1 30 [2, 7] HT_ ?_
         refine M.pu 4 33 [2, 2, 1, 4] HT_ ?_
         refine M.tk 2 31 [3, 1, 1, 4] HT_ HW_ hHeld ?_
         refine M.pu 3 32 [5, 4] HT_ ?_
         refine M.tk 5 34 [6, 3] HT_ HW_ hHeld ?_
         refine one_ (i := 6) (N := some 35) #[true, true, true, true, true, true, true, false, false] rfl rfl (one_of HT_.out (by kernel_rfl)) (by decide) (fun K hK => ?_)
         refine goes_ Tryd.func54 (by kernel_rfl) rfl #[.string a0_3] (by rfl) rfl rfl (by (try simp only [List.map_toArray, List.map_cons, List.map_nil]); first | done | rfl | (simp only [List.length_drop, List.length_take]; rfl)) ?_
         with_reducible refine (pleachref04_PutText.calls a0_3 t409 _ A20.out).mono ?_
         rintro e w23 ⟨rfl, hb⟩
         refine ⟨_, rfl, ?_⟩
         replace zaf := M.bkB zaf hb; replace HB := M.upS HB hb
         (try clear hb)
         (try clear hb2)
         (try clear hk)
         (try clear hi)
         refine hK.out _ _ ⟨(blk_cell zaf.out 0).trans rfl, (blk_cell zaf.out 1).trans rfl, (blk_cell zaf.out 2).trans rfl, (blk_cell zaf.out 3).trans rfl⟩ (fun hHeld => ?_)
         clear hK K
         refine norm_ (a' := ?_) ?_ ?_
         rotate_left
         ·show Act.put _ (some 35) _ = _
          simp only [Act.put, List.setIfInBounds_toArray, List.set_cons_zero, List.set_cons_succ, i64_w, i32_w]
          rfl
         refine M.pu 7 36 [8, 1] HT_ ?_
         refine M.pu 8 2 [9] HT_ ?_
         refine done_ (done_of HT_.out (by kernel_rfl)) ?_
         try go_wp2
         go_ret
         exact M.fin (M.up HB)
        ·exact M.nf c21 H
       ·exact M.nf c19 H
   ·exact M.nf c7 H
  ·exact M.nf c5 H
 ·replace c3 := Bool.eq_false_iff.mpr c3
  subst c3
  have H1 : (some (⟨#[]⟩ : ByteArray)) = some r := by rw [if_neg (show ¬ (false = true) by decide)] at H; exact H
  clear H
  have H := H1
  clear H1
  obtain rfl := Option.some.inj H
  go_enter Tryd.func37, Tryd.ntmps37
  go_wp2_with (first | ((with_reducible refine gate_dst (N := 1) rfl ?_); refine M.bx 1 49 (#[.int .i64 a0_0, .slice A0_1 l0_1.length c0_1, .string a0_2, .string a0_3]) ?_; intro zae hg w24 hbox hb; have zaf := Aside0.mk (hbox); have zag := M.upG HB hg; have zah := M.upG HB hg; replace HB := M.upS HB hb; clear hb hbox hg; have zay : w24.cell? ⟨zae, 0, none⟩ = some (.int .i64 a0_0) := (blk_cell zaf.out 0).trans rfl; have zaz : w24.cell? ⟨zae, 1, none⟩ = some (.slice A0_1 l0_1.length c0_1) := (blk_cell zaf.out 1).trans rfl; have zaA : w24.cell? ⟨zae, 2, none⟩ = some (.string a0_2) := (blk_cell zaf.out 2).trans rfl; have zaB : w24.cell? ⟨zae, 3, none⟩ = some (.string a0_3) := (blk_cell zaf.out 3).trans rfl; have zaC := blk_frozen zaf.out 0; have zaD := blk_frozen zaf.out 1; have zaE := blk_frozen zaf.out 2; have zaF := blk_frozen zaf.out 3) | ((with_reducible refine gate_callee (f := 55) rfl ?_); refine M.goes (some 7) Tryd.func55 #[.agg #[.int .i64 a0_0, .slice A0_1 l0_1.length c0_1, .string a0_2, .string a0_3]] rfl ?_; (with_reducible refine (pleachref35_Is.calls a0_0 _ _ l0_1 a0_2 a0_3 false _ ?side1 ?side2 A2.out).mono ?_); (case side1 => exact M.cB HR0_1 HB); (case side2 => exact HC0_1.out); rintro e w26 ⟨rfl, hb⟩; refine ⟨_, rfl, ?_⟩; replace zaf := M.bkB zaf hb; replace HB := M.upS HB hb; (try clear hb)))
  go_ret
  exact M.fin (M.up HB)
def pleachref35_Put.f (a0_0 : Int) (l0_1 : List ByteArray) (a0_2 : ByteArray) (a0_3 : ByteArray) : Option ByteArray := some (if M.isC a0_0 l0_1 a0_2 a0_3 then M.sb (M.cput a0_0 l0_1 a0_2 a0_3) else ⟨#[]⟩)
theorem pleachref35_Put.loop (n : Int) (ps : List ByteArray) (g note : ByteArray) (hl : ps.length ≤ 2) (hp : ∀ p ∈ ps, p.size = 32) (hg : g.size = 32) (hn : note.size ≤ 40) (d : Nat) : ∀ (i : Nat) (out : ByteArray), i + d = ps.length → out.size ≤ 100 + 32 * i →
    pleachref35_Put_p.l0 (d + 1) out ps (ps.length : Int) (i : Int) n ps g note = some (out ++ M.sb ((ps.drop i).flatMap M.bs ++ (M.bs g ++ (M.vb note.size ++ M.bs note)))) := by
 have hv := M.vb_le note.size (by omega)
 have hv2 : (M.sb (M.vb note.size)).size ≤ 10 := by rw [M.size_sb]; exact hv
 have ht : pleachref04_PutText.f note = some (M.sb (M.vb note.size) ++ note) := if_pos (by omega)
 induction d with
 | zero =>
  intro i out hi ho
  rw [pleachref35_Put_p.l0, if_neg (by omega), if_pos (by omega), ht, Option.bind_some, if_pos (by simp only [M.size_append]; omega), List.drop_of_length_le (by omega)]
  congr 1
  apply M.bs_inj
  simp only [M.bs_append, M.bs_sb, List.flatMap_nil, List.nil_append, List.append_assoc]
 | succ d ih =>
  intro i out hi ho
  have h1 : i < ps.length := by omega
  have r1 : rdOf ByteArray.empty ps (i : Int) = ps[i] := by simp [rdOf, List.getD, h1]
  have hz := hp ps[i] (List.getElem_mem h1)
  have hsz : (out ++ ps[i]).size ≤ 100 + 32 * (i + 1) := by rw [M.size_append, hz]; omega
  rw [pleachref35_Put_p.l0, if_pos (by omega), if_pos (by omega), if_pos (by omega), r1, if_pos (by omega), M.wrap64_id (by omega) (by omega), show (i : Int) + 1 = ((i + 1 : Nat) : Int) from by omega, ih (i + 1) _ (by omega) hsz, List.drop_eq_getElem_cons h1]
  congr 1
  apply M.bs_inj
  simp only [M.bs_append, M.bs_sb, List.flatMap_cons, List.append_assoc]
theorem pleachref35_Put.ev (n : Int) (ps : List ByteArray) (g note : ByteArray) (r : ByteArray) (h : pleachref35_Put.f n ps g note = some r) : ∃ k, pleachref35_Put_p.f k n ps g note = some r := by
 unfold pleachref35_Put.f at h
 obtain rfl := Option.some.inj h
 refine ⟨ps.length + 1, ?_⟩
 unfold pleachref35_Put_p.f pleachref35_Is.f
 rw [Option.bind_some]
 by_cases hc : M.isC n ps g note
 ·obtain ⟨⟨hn0, hn1⟩, hp2, hg, hnote, hps, _⟩ := id hc
  have hv := M.vb_le n.toNat (by omega)
  have hv2 := M.vb_le ps.length (by omega)
  have e1 : pleachref04_PutNum.f n = some (M.sb (M.vb n.toNat)) := if_pos (by omega)
  have e2 : pleachref04_PutNum.f (ps.length : Int) = some (M.sb (M.vb ps.length)) := by
   have : pleachref04_PutNum.f (ps.length : Int) = some (M.sb (M.vb (ps.length : Int).toNat)) := if_pos (by omega)
   rw [this, Int.toNat_natCast]
  have e3 : (⟨#[67]⟩ : ByteArray) = M.sb [67] := rfl
  rw [if_pos (decide_eq_true hc), e1, Option.bind_some, e3, if_pos (by rw [M.size_sb]; omega), e2, Option.bind_some, if_pos (by rw [M.size_append, M.size_sb, M.size_sb, M.size_sb]; simp only [List.length_cons, List.length_nil]; omega)]
  have := pleachref35_Put.loop n ps g note hp2 hps hg hnote ps.length 0 (M.sb [67] ++ M.sb (M.vb n.toNat) ++ M.sb (M.vb ps.length)) (by omega) (by rw [M.size_append, M.size_append, M.size_sb, M.size_sb, M.size_sb]; simp only [List.length_cons, List.length_nil]; omega)
  rw [show ((0 : Nat) : Int) = 0 from rfl] at this
  rw [this, if_pos hc]
  congr 1
  apply M.bs_inj
  simp only [M.bs_append, M.bs_sb, M.cput, List.drop_zero, List.append_assoc]
 ·rw [if_neg (by simp [hc]), if_neg hc]
theorem pleachref35_Put.calls (a0_0 : Int) (A0_1 : Option Addr) (c0_1 : Nat) (l0_1 : List ByteArray) (a0_2 : ByteArray) (a0_3 : ByteArray) (r : ByteArray) (w : World) (hr0_1 : Kd.C Kd.string w A0_1 l0_1.length l0_1) (hc0_1 : l0_1.length ≤ c0_1) (h : pleachref35_Put.f a0_0 l0_1 a0_2 a0_3 = some r) :
    Calls Tryd.prog 37 #[.agg #[.int .i64 a0_0, .slice A0_1 l0_1.length c0_1, .string a0_2, .string a0_3]] w fun e w' => e = .returned (.string r) ∧ Below w.heap.size w w' := by
 obtain ⟨k, hk⟩ := pleachref35_Put.ev _ _ _ _ _ h
 exact pleachref35_Put_p.calls (k := k) (w := w) (h := hk) (hr0_1 := hr0_1) (hc0_1 := hc0_1)
end Go.Proofs.YtkjbhgolillidaaDoor.EMarkNames
