-- Laid by this session's own program (wip/tools/fold.py): this session's texts, cut to what the claim names and put together; Lean checks it.
import Derived.Test.YtkjbhgolillidaaDoorVMarkNames1
import Derived.Test.YtkjbhgolillidaaDoorVMarkNames5
import Derived.Test.YtkjbhgolillidaaDoorVMarkNames7
import Derived.Test.YtkjbhgolillidaaDoorXMarkNames1
namespace Go.Proofs.YtkjbhgolillidaaDoor.EMarkNames
open Go.RowKit Go.Proofs.YtkjbhgolillidaaDoorW.PrintWords Go.Proofs.YtkjbhgolillidaaDoorW.PrintLast Go.Proofs.YtkjbhgolillidaaDoorW.PrintMore
attribute [local go_sem] M.run_leq M.run_gtr M.run_geq max2_int min2_int max_two min_two max_three min_three max_four min_four
set_option linter.unusedVariables false
set_option linter.unusedSimpArgs false
mutual
def mark_Names.j2 : Nat → List ByteArray → Int → Option (List ByteArray × Int)
  | 0, _, _ => none
  | k + 1, x4, x5 => if x5 = 0 then (some (x4, 0)) else (some (([] : List ByteArray), 3))
def mark_Names.j0 : Nat → ByteArray → List ByteArray → Int → Bool → Option (List ByteArray × Int)
  | 0, _, _, _, _ => none
  | k + 1, x0, x4, x17, x31 => if x31 = true then ((chunk_Take.f x0).bind fun bt248 => (mark_Names.l0 k x4 bt248.2.2.2 bt248.2.1 (bt248.2.1.length : Int) 0 bt248.1 bt248.2.1 bt248.2.2.1)) else (if x17 = 71 then ((quad_Take.f x0).bind fun bt265 => (mark_Names.j2 k (([bt265.1, bt265.2.1, bt265.2.2.1, bt265.2.2.2.1] : List ByteArray)) bt265.2.2.2.2)) else ((commit_Take.f x0).bind fun bt274 => ((slices_Clone_string_string.f bt274.2.1).bind fun t282 => ((some (([bt274.2.2.1] : List ByteArray) : List ByteArray)).bind fun y285 => (if t282.length + y285.length < 8796093022208 then (mark_Names.j2 k (t282 ++ y285) bt274.2.2.2.2) else (none))))))
def mark_Names.l0 : Nat → List ByteArray → Int → List (S43) → Int → Int → Int → List (S43) → List Int → Option (List ByteArray × Int)
  | 0, _, _, _, _, _, _, _, _ => none
  | k + 1, x4, x5, x41, x42, x43, zaa, zab, zac => if x43 < x42 then (if 0 ≤ x43 then (if x43 < (x41.length : Int) then (if zaa > 0 then ((some (([(rd_T43 x41 x43).f1] : List ByteArray) : List ByteArray)).bind fun y259 => (if x4.length + y259.length < 8796093022208 then (mark_Names.l0 k (x4 ++ y259) x5 x41 x42 (wrap64 (x43 + 1)) zaa zab zac) else (none))) else (mark_Names.l0 k x4 x5 x41 x42 (wrap64 (x43 + 1)) zaa zab zac)) else (none)) else (none)) else (mark_Names.j2 k x4 x5)
end
def mark_Names.f (k : Nat) (a0 : ByteArray) : Option (List ByteArray × Int) := if a0.toList = ([] : List UInt8) then (some (([] : List ByteArray), 3)) else (if 0 < (a0.size : Int) then (if (bt a0 0) = 76 then (mark_Names.j0 k a0 ([] : List ByteArray) (bt a0 0) ((bt a0 0) == 76)) else (mark_Names.j0 k a0 ([] : List ByteArray) (bt a0 0) ((bt a0 0) == 73))) else (none))
theorem mark_Names.mono_l : ∀ k, (∀ y0 y1, LeO (mark_Names.j2 k y0 y1) (mark_Names.j2 (k + 1) y0 y1)) ∧ (∀ y0 y1 y2 y3, LeO (mark_Names.j0 k y0 y1 y2 y3) (mark_Names.j0 (k + 1) y0 y1 y2 y3)) ∧ (∀ y0 y1 y2 y3 y4 y5 y6 y7, LeO (mark_Names.l0 k y0 y1 y2 y3 y4 y5 y6 y7) (mark_Names.l0 (k + 1) y0 y1 y2 y3 y4 y5 y6 y7))
  | 0 => ⟨fun _ _ r h => by simp [mark_Names.j2] at h, fun _ _ _ _ r h => by simp [mark_Names.j0] at h, fun _ _ _ _ _ _ _ _ r h => by simp [mark_Names.l0] at h⟩
  | k + 1 => by
    obtain ⟨ih0, ih1, ih2⟩ := mark_Names.mono_l k
    refine ⟨?_, ?_, ?_⟩
    · intro y0 y1
      unfold mark_Names.j2
      repeat' first
      | (with_reducible exact ih0 _ _)
      | (with_reducible exact ih1 _ _ _ _)
      | (with_reducible exact ih2 _ _ _ _ _ _ _ _)
      | (with_reducible exact LeO.refl _)
      | (with_reducible exact LeO.none _)
      | (with_reducible refine LeO.ite ?_ ?_)
      | (with_reducible refine LeO.bind ?_ (fun _ => ?_))
      | exact ih0 _ _
      | exact ih1 _ _ _ _
      | exact ih2 _ _ _ _ _ _ _ _
      | exact LeO.none _
      | refine LeO.ite ?_ ?_
      | refine LeO.bind ?_ (fun _ => ?_)
    · intro y0 y1 y2 y3
      unfold mark_Names.j0
      repeat' first
      | (with_reducible exact ih0 _ _)
      | (with_reducible exact ih1 _ _ _ _)
      | (with_reducible exact ih2 _ _ _ _ _ _ _ _)
      | (with_reducible exact LeO.refl _)
      | (with_reducible exact LeO.none _)
      | (with_reducible refine LeO.ite ?_ ?_)
      | (with_reducible refine LeO.bind ?_ (fun _ => ?_))
      | exact ih0 _ _
      | exact ih1 _ _ _ _
      | exact ih2 _ _ _ _ _ _ _ _
      | exact LeO.none _
      | refine LeO.ite ?_ ?_
      | refine LeO.bind ?_ (fun _ => ?_)
    · intro y0 y1 y2 y3 y4 y5 y6 y7
      unfold mark_Names.l0
      repeat' first
      | (with_reducible exact ih0 _ _)
      | (with_reducible exact ih1 _ _ _ _)
      | (with_reducible exact ih2 _ _ _ _ _ _ _ _)
      | (with_reducible exact LeO.refl _)
      | (with_reducible exact LeO.none _)
      | (with_reducible refine LeO.ite ?_ ?_)
      | (with_reducible refine LeO.bind ?_ (fun _ => ?_))
      | exact ih0 _ _
      | exact ih1 _ _ _ _
      | exact ih2 _ _ _ _ _ _ _ _
      | exact LeO.none _
      | refine LeO.ite ?_ ?_
      | refine LeO.bind ?_ (fun _ => ?_)
theorem mark_Names.mono : ∀ a0 k, LeO (mark_Names.f k a0) (mark_Names.f (k + 1) a0) := by
  intro a0 k
  obtain ⟨ih0, ih1, ih2⟩ := mark_Names.mono_l k
  unfold mark_Names.f
  repeat' first
      | (with_reducible exact ih0 _ _)
      | (with_reducible exact ih1 _ _ _ _)
      | (with_reducible exact ih2 _ _ _ _ _ _ _ _)
      | (with_reducible exact LeO.refl _)
      | (with_reducible exact LeO.none _)
      | (with_reducible refine LeO.ite ?_ ?_)
      | (with_reducible refine LeO.bind ?_ (fun _ => ?_))
      | exact ih0 _ _
      | exact ih1 _ _ _ _
      | exact ih2 _ _ _ _ _ _ _ _
      | exact LeO.none _
      | refine LeO.ite ?_ ?_
      | refine LeO.bind ?_ (fun _ => ?_)
def mark_Names.T7 : Bool × List (List Nat × List Nat) := (true, [([], []), ([0], [0]), ([1], [1]), ([], []), ([3], [3]), ([4], [4]), ([2, 5, 2], [2, 5]), ([], []), ([6, 6, 0, 1, 2, 3, 4, 5, 6], [6]), ([7, 8, 0, 1, 2, 3, 4, 5, 6, 7, 8], [7])])
def mark_Names.B7 : List Nat := [0, 1, 3, 0, 8, 24, 63, 0, 127, 511]
theorem mark_Names.tab7 : rtab .any (opsOf Tryd.f5 7) = mark_Names.T7 := by kernel_rfl
theorem mark_Names.bits7 : waitsOk mark_Names.T7.2 mark_Names.B7 = true := by kernel_rfl
set_option maxHeartbeats 8000000 in
set_option maxRecDepth 100000 in
theorem mark_Names.calls (k : Nat) (a0 : ByteArray) (r1 : List ByteArray) (r2 : Int) (w : World) (h : mark_Names.f k a0 = some (r1, r2)) :
    Calls Tryd.prog 5 #[.string a0] w fun e w' => ∃ v0_ : Value, e = .returned (.tuple #[v0_, .int .i64 r2]) ∧ Kd.R Kd.string 9 w' w.heap.size (fun _ => True) v0_ r1 ∧ Below w.heap.size w w' := by
 have hu39 := Tryd.underlying39
 have hu43 := Tryd.underlying43
 have hu45 := Tryd.underlying45
 have hu49 := Tryd.underlying49
 have HB := Aside0.mk (Below.refl w.heap.size w)
 have H : (if a0.toList = ([] : List UInt8) then (some (([] : List ByteArray), 3)) else (if 0 < (a0.size : Int) then (if (bt a0 0) = 76 then (mark_Names.j0 k a0 ([] : List ByteArray) (bt a0 0) ((bt a0 0) == 76)) else (mark_Names.j0 k a0 ([] : List ByteArray) (bt a0 0) ((bt a0 0) == 73))) else (none))) = some (r1, r2) := h
 clear h
 by_cases c2 : a0.toList = ([] : List UInt8)
 ·rw [if_pos c2] at H
  have c2b0 : (a0.toList == ([] : List UInt8)) = true := beq_iff_eq.mpr c2
  have c2b1 : (a0.toList != ([] : List UInt8)) = false := bne_eq_false_iff_eq.mpr c2
  clear c2
  simp only [Option.some.injEq, Prod.mk.injEq] at H
  obtain ⟨rfl, rfl⟩ := H
  go_enter Tryd.func5, Tryd.ntmps5
  go_wp2
  go_ret2
  exact ⟨_, M.eqe, M.nl, M.up HB⟩
 ·rw [if_neg c2] at H
  have c2b0 : (a0.toList == ([] : List UInt8)) = false := beq_eq_false_iff_ne.mpr c2
  have c2b1 : (a0.toList != ([] : List UInt8)) = true := bne_iff_ne.mpr c2
  by_cases c3 : 0 < (a0.size : Int)
  ·rw [if_pos c3] at H
   have c3b0 := decide_eq_true c3
   have c3b1 : decide (0 < a0.size) = true := decide_eq_true (by omega)
   clear c3
   have HC5 := Aside0.mk H
   clear H
   have p4 : 0 ≤ (0 : Int) := (by omega)
   have q4 : 0 < a0.size := (by have : (0 : Int) < (a0.size : Int) := M.dt; omega)
   have hx4 : ∀ h : 0 < a0.size, ((a0[0]'h).toNat : Int) = bt a0 0 := bt_at a0 0
   clear p4
   have qi4 : (0 < (a0.size : Int)) = True := eq_true (M.dt)
   replace q4 := eq_true q4
   go_enter Tryd.func5, Tryd.ntmps5
   go_upto_block 0 with (fail)
   go_cut [4, 5] (fun v4 v5 wc => ∃ (kq : Nat) (x4_4 : List ByteArray) (x5_4 : Int), v5 = .int .i64 x5_4 ∧ Aside0 (mark_Names.j2 kq x4_4 x5_4 = some (r1, r2)) ∧ Aside0 (kq ≤ k) ∧ Aside0 (Kd.R Kd.string 9 wc w.heap.size (fun _ => True) v4 x4_4) ∧ Aside0 (Below w.heap.size w wc))
   case first =>
    have H := HC5.out
    clear HC5
    have HC6 := Aside0.mk H
    clear H
    go_upto_if 31 with (fail)
    go_cut [31] (fun v31 wc => ∃ (kq : Nat) (x31_5 : Bool), v31 = .bool x31_5 ∧ Aside0 (mark_Names.j0 kq a0 ([] : List ByteArray) (bt a0 0) x31_5 = some (r1, r2)) ∧ Aside0 (kq ≤ k) ∧ Aside0 (Kd.R Kd.string 9 wc w.heap.size (fun _ => True) (.slice none 0 0) ([] : List ByteArray)) ∧ Aside0 (Below w.heap.size w wc))
    case first =>
     have H := HC6.out
     clear HC6
     by_cases c7 : (bt a0 0) = 76
     ·rw [if_pos c7] at H
      have c7b0 : ((bt a0 0) == 76) = true := beq_iff_eq.mpr c7
      have c7b1 : ((bt a0 0) != 76) = false := bne_eq_false_iff_eq.mpr c7
      clear c7
      (first | rw [c7b0] | (simp only [i64_w, i32_w]; rw [c7b0]) | skip)
      have H' := Aside0.mk H
      clear H
      go_wp2
      go_meet
      case rel => exact ⟨_, (((bt a0 0) == 76)), M.eqv, H', ⟨by first | omega | exact Nat.le_refl _⟩, ⟨M.nl⟩, ⟨M.up HB⟩⟩
     ·rw [if_neg c7] at H
      have c7b0 : ((bt a0 0) == 76) = false := beq_eq_false_iff_ne.mpr c7
      have c7b1 : ((bt a0 0) != 76) = true := bne_iff_ne.mpr c7
      (first | rw [c7b0] | (simp only [i64_w, i32_w]; rw [c7b0]) | skip)
      have H' := Aside0.mk H
      clear H
      go_wp2
      go_meet
      case rel => exact ⟨_, (((bt a0 0) == 73)), M.eqv, H', ⟨by first | omega | exact Nat.le_refl _⟩, ⟨M.nl⟩, ⟨M.up HB⟩⟩
    case rest =>
     clear HC6
     (try clear c2); (try clear c2b0); (try clear c2b1); (try clear p2); (try clear c3); (try clear c3b0); (try clear c3b1); (try clear p4); (try clear q4); (try clear hx4); (try clear qi4); (try clear c5); (try clear c7); (try clear c7b0); (try clear c7b1); (try clear p4); (try clear q4)
     obtain ⟨kq, x31_5, rfl, HA, HJ5, zad, HB⟩ := hcut
     cases kq with
     | zero => exact absurd HA.out (by simp [mark_Names.j0])
     | succ kj5 =>
      have H := HA.out
      clear HA
      simp only [mark_Names.j0] at H
      by_cases c8 : x31_5 = true
      ·subst c8
       have H1 : ((chunk_Take.f a0).bind fun bt248 => (mark_Names.l0 kj5 ([] : List ByteArray) bt248.2.2.2 bt248.2.1 (bt248.2.1.length : Int) 0 bt248.1 bt248.2.1 bt248.2.2.1)) = some (r1, r2) := by rw [if_pos rfl] at H; exact H
       clear H
       have H := H1
       clear H1
       replace H := Option.bind_eq_some_iff.mp H
       obtain ⟨⟨t248, t249, t252, t255⟩, A90, H⟩ := H
       replace H : (mark_Names.l0 kj5 ([] : List ByteArray) t255 t249 (t249.length : Int) 0 t248 t249 t252) = some (r1, r2) := H
       have A9 := Aside0.mk A90
       clear A90
       have H' := Aside0.mk H
       clear H
       go_wp2_with (first | ((with_reducible refine gate_callee (f := 11) rfl ?_); refine M.goes (some 36) Tryd.func11 #[.string a0] rfl ?_; (with_reducible refine (chunk_Take.calls a0 t248 t249 t252 t255 _ A9.out).mono ?_); rintro e w10 ⟨v250, v253, rfl, ho0, ho1, hb⟩; refine ⟨_, rfl, ?_⟩; replace zad := M.roB zad hb; have HO251 := Aside0.mk (Kd.R_lower ho0 (below_size (M.up HB))); have HO254 := Aside0.mk (Kd.R_lower ho1 (below_size (M.up HB))); replace HB := M.upS HB hb; (try clear hb); (try clear ho0); (try clear ho1)) | ((with_reducible refine gate_dst (N := 6) rfl ?_); refine M.bx 6 39 (#[.int .i64 0, .slice none 0 0, .slice none 0 0]) ?_; intro zae hg w11 hbox hb; replace zad := M.roB zad hb; replace HO251 := M.roB HO251 hb; replace HO254 := M.roB HO254 hb; have zaf := Aside0.mk (hbox); have zag := M.upG HB hg; have zah := M.upG HB hg; replace HB := M.upS HB hb; clear hb hbox hg; obtain ⟨zai, zaj, zak⟩ := M.bc3 (w := w11) (a := .int .i64 0) (b := .slice none 0 0) (c := .slice none 0 0) zaf.out; obtain ⟨zal, zam, zan⟩ := M.bf3 zaf; obtain ⟨Ao13, co13, eo13⟩ := Kd.R_slice HO251.out; subst eo13; obtain ⟨Ao14, co14, eo14⟩ := Kd.R_slice HO254.out; subst eo14))
       go_loopg [4, 43] kj5 (fun kq v4 v43 w' => ∃ (x4_2 : List ByteArray) (x43_2 : Int), v43 = .int .i64 x43_2 ∧ Aside0 (mark_Names.l0 kq x4_2 t255 t249 (t249.length : Int) x43_2 t248 t249 t252 = some (r1, r2)) ∧ Aside0 (kq ≤ kj5) ∧ Aside0 (Kd.R Kd.string 9 w' w.heap.size (fun _ => True) v4 x4_2) ∧ Aside0 (Kd.R k43 43 w' w.heap.size (fun _ => True) (.slice Ao13 t249.length co13) t249) ∧ Aside0 (Kd.R k43 43 w' w.heap.size (fun _ => True) (.slice Ao13 t249.length co13) t249) ∧ Aside0 (Kd.R (Kd.int .i64) 3 w' w.heap.size (fun _ => True) (.slice Ao14 t252.length co14) t252) ∧ Aside0 (w'.heap[zae]? = some (.cells #[.int .i64 t248, (.slice Ao13 t249.length co13), (.slice Ao14 t252.length co14)] 39 (0, 0))) ∧ Aside0 (Below w.heap.size w w'))
       case atStart => exact ⟨(([] : List ByteArray)), (0), M.eqv, H', ⟨Nat.le_refl _⟩, ⟨by (with_reducible repeat (first | apply Kd.R_alloc | apply Kd.R_drewN | apply Kd.R_drew)); exact Kd.R_mono (Kd.R_far (p := ⟨zae, 2, none⟩) (Kd.R_far (p := ⟨zae, 1, none⟩) (Kd.R_far (p := ⟨zae, 0, none⟩) (Kd.R_types zad.out zaf.out (by decide)) (fun _ hk => hk.2) (.int .i64 t248)) (fun _ hk => hk.2) (.slice Ao13 t249.length co13)) (fun _ hk => hk.2) (.slice Ao14 t252.length co14)) (fun _ hk => trivial)⟩, ⟨by (with_reducible repeat (first | apply Kd.R_alloc | apply Kd.R_drewN | apply Kd.R_drew)); exact Kd.R_mono (Kd.R_far (p := ⟨zae, 2, none⟩) (Kd.R_far (p := ⟨zae, 1, none⟩) (Kd.R_far (p := ⟨zae, 0, none⟩) (Kd.R_types HO251.out zaf.out (by decide)) (fun _ hk => hk.2) (.int .i64 t248)) (fun _ hk => hk.2) (.slice Ao13 t249.length co13)) (fun _ hk => hk.2) (.slice Ao14 t252.length co14)) (fun _ hk => trivial)⟩, ⟨by (with_reducible repeat (first | apply Kd.R_alloc | apply Kd.R_drewN | apply Kd.R_drew)); exact Kd.R_mono (Kd.R_far (p := ⟨zae, 2, none⟩) (Kd.R_far (p := ⟨zae, 1, none⟩) (Kd.R_far (p := ⟨zae, 0, none⟩) (Kd.R_types HO251.out zaf.out (by decide)) (fun _ hk => hk.2) (.int .i64 t248)) (fun _ hk => hk.2) (.slice Ao13 t249.length co13)) (fun _ hk => hk.2) (.slice Ao14 t252.length co14)) (fun _ hk => trivial)⟩, ⟨by (with_reducible repeat (first | apply Kd.R_alloc | apply Kd.R_drewN | apply Kd.R_drew)); exact Kd.R_mono (Kd.R_far (p := ⟨zae, 2, none⟩) (Kd.R_far (p := ⟨zae, 1, none⟩) (Kd.R_far (p := ⟨zae, 0, none⟩) (Kd.R_types HO254.out zaf.out (by decide)) (fun _ hk => hk.2) (.int .i64 t248)) (fun _ hk => hk.2) (.slice Ao13 t249.length co13)) (fun _ hk => hk.2) (.slice Ao14 t252.length co14)) (fun _ hk => trivial)⟩, ⟨by refine M.fp (cs := #[.int .i64 t248, .slice Ao13 t249.length co13, .slice none 0 0]) ?_ 2; refine M.fp (cs := #[.int .i64 t248, .slice none 0 0, .slice none 0 0]) ?_ 1; refine M.fp (cs := #[.int .i64 0, .slice none 0 0, .slice none 0 0]) ?_ 0; exact M.bk zaf⟩, ⟨M.up HB⟩⟩
       case round =>
        clear H'
        (try clear c1); (try clear c2); (try clear c2b0); (try clear c2b1); (try clear p2); (try clear c3); (try clear c3b0); (try clear c3b1); (try clear p4); (try clear q4); (try clear hx4); (try clear qi4); (try clear c5); (try clear c7); (try clear c7b0); (try clear c7b1); (try clear c8); (try clear c11); (try clear zai); (try clear zaj); (try clear zak); (try clear zal); (try clear zam); (try clear zan); (try clear p2); (try clear p4); (try clear q4)
        obtain ⟨x4_2, x43_2, rfl, HA, HK2, zad, zao, zap, zaq, zaf, HB⟩ := hrel
        cases gk with
        | zero => exact absurd HA.out (by simp [mark_Names.l0])
        | succ k2 =>
         have H := HA.out
         clear HA
         simp only [mark_Names.l0] at H
         by_cases c15 : x43_2 < (t249.length : Int)
         ·rw [if_pos c15] at H
          have c15b0 := decide_eq_true c15
          clear c15
          by_cases c16 : 0 ≤ x43_2
          ·rw [if_pos c16] at H
           have c16b0 := decide_eq_true c16
           clear c16
           by_cases c17 : x43_2 < (t249.length : Int)
           ·rw [if_pos c17] at H
            have c17b0 := decide_eq_true c17
            clear c17
            by_cases c18 : t248 > 0
            ·rw [if_pos c18] at H
             have c18b0 := decide_eq_true c18
             clear c18
             obtain ⟨y259, hy259⟩ : ∃ y_ : List ByteArray, y_ = (([(rd_T43 t249 x43_2).f1] : List ByteArray)) := ⟨_, rfl⟩
             replace H : (if x4_2.length + y259.length < 8796093022208 then (mark_Names.l0 k2 (x4_2 ++ y259) t255 t249 (t249.length : Int) (wrap64 (x43_2 + 1)) t248 t249 t252) else (none)) = some (r1, r2) := by first | (rw [hy259]; with_reducible exact H) | (have H2_ := (Option.bind_some _ _).symm.trans H; rw [hy259]; with_reducible exact H2_) | (have H2_ := (Option.bind_some _ _).symm.trans H; with_reducible exact H2_) | with_reducible exact H | (rw [hy259]; exact H) | exact H
             have Ny259 := Aside0.mk hy259
             clear hy259
             by_cases c19 : x4_2.length + y259.length < 8796093022208
             ·rw [if_pos c19] at H
              have LMc19 := Aside0.mk c19
              clear c19
              obtain ⟨y262, hy262⟩ : ∃ y_ : List ByteArray, y_ = (x4_2 ++ y259) := ⟨_, rfl⟩
              replace H : (mark_Names.l0 k2 y262 t255 t249 (t249.length : Int) (wrap64 (x43_2 + 1)) t248 t249 t252) = some (r1, r2) := by first | (rw [hy262]; with_reducible exact H) | (have H2_ := (Option.bind_some _ _).symm.trans H; rw [hy262]; with_reducible exact H2_) | (have H2_ := (Option.bind_some _ _).symm.trans H; with_reducible exact H2_) | with_reducible exact H | (rw [hy262]; exact H) | exact H
              have Ny262 := Aside0.mk hy262
              clear hy262
              have H' := Aside0.mk H
              clear H
              have p257 : 0 ≤ (x43_2 : Int) := M.dt
              have q257 : x43_2 < (t249.length : Int) := M.dt
              obtain ⟨ad257, e257, hx257_0, hx257_1⟩ := at_T43 (Kd.R_reads' zao.out).2.2 x43_2 p257 q257
              cases e257
              replace p257 := eq_true p257
              replace q257 := eq_true q257
              go_wp2_with (first | ((with_reducible refine gate_dst (N := 9) rfl ?_); refine M.bx 9 43 (#[.string (⟨#[]⟩ : ByteArray), .string (⟨#[]⟩ : ByteArray)]) ?_; intro zar hg w20 hbox hb; replace zad := M.roB zad hb; replace zao := Aside0.mk (Kd.R_below (Kd.R_elderB (M.ro zao) zar (Nat.le_of_eq hg.symm)) hb); replace zap := Aside0.mk (Kd.R_below (Kd.R_elderB (M.ro zap) zar (Nat.le_of_eq hg.symm)) hb); replace zaq := M.roB zaq hb; have zas := Aside0.mk (hbox); have zat := M.upG HB hg; have zau := M.upG HB hg; replace HB := M.upS HB hb; have zav := M.bkL zaf hg; have zaw := M.bkG zaf hg; replace zaf := M.bkB zaf hb; clear hb hbox hg; have zax := zaw.out; have zay := zav.out; obtain ⟨zaz, zaA⟩ := M.bc2 (w := w20) (a := .string (⟨#[]⟩ : ByteArray)) (b := .string (⟨#[]⟩ : ByteArray)) zas.out; obtain ⟨zaB, zaC⟩ := M.bf2 zas; obtain ⟨zaD, zaE, zaF⟩ := M.bc3 (w := w20) (a := .int .i64 t248) (b := .slice (some ad257) t249.length co13) (c := .slice Ao14 t252.length co14) zaf.out; obtain ⟨zaG, zaH, zaI⟩ := M.bf3 zaf) | ((with_reducible refine gate_dst (N := 53) rfl ?_); refine Kd.R_lit Kd.string _ 9 ?hg (N := 53) ?hd (xs := ([(rd_T43 t249 x43_2).f1] : List ByteArray)) (inner := [.string ((rd_T43 t249 x43_2).f1)]) (ok := fun _ => True) (okp := fun _ => True) ?hr ?hp (fun _ hk => hk) trivial (Below.refl _ _) (Nat.le_refl _) (by simp) ?_; (case hd => rfl); (case hg => rfl); (case hr => first | (go_simp; done) | (go_simp; rfl)); (case hp => exact (Reps.one (show Kd.M Kd.string _ _ _ ((rd_T43 t249 x43_2).f1) [.string ((rd_T43 t249 x43_2).f1)] from rfl) (Reps.none _ _))); intro v260 w24 ho25 hb hg_ hnew_; clear hg_ hnew_; (first | rw [← Ny259.out] at ho25 | (simp only [Int.reduceToNat] at ho25; rw [← Ny259.out] at ho25)); replace zao := Aside0.mk (Kd.R_below (by (with_reducible repeat (first | apply Kd.R_alloc | apply Kd.R_drewN | apply Kd.R_drew)); exact (Kd.R_mono (Kd.R_far (p := ⟨zar, 1, none⟩) (Kd.R_far (p := ⟨zar, 0, none⟩) (Kd.R_mono zao.out (fun k_ hk => (⟨hk, hk.2⟩ : _ ∧ k_ ≠ zar))) (fun _ hk => hk.2) (.string ((rd_T43 t249 x43_2).f0))) (fun _ hk => hk.2) (.string ((rd_T43 t249 x43_2).f1))) (fun _ h_ => h_.1))) hb); replace zap := Aside0.mk (Kd.R_below (by (with_reducible repeat (first | apply Kd.R_alloc | apply Kd.R_drewN | apply Kd.R_drew)); exact (Kd.R_mono (Kd.R_far (p := ⟨zar, 1, none⟩) (Kd.R_far (p := ⟨zar, 0, none⟩) (Kd.R_mono zap.out (fun k_ hk => (⟨hk, hk.2⟩ : _ ∧ k_ ≠ zar))) (fun _ hk => hk.2) (.string ((rd_T43 t249 x43_2).f0))) (fun _ hk => hk.2) (.string ((rd_T43 t249 x43_2).f1))) (fun _ h_ => h_.1))) hb); replace zaq := Aside0.mk (Kd.R_below (by (with_reducible repeat (first | apply Kd.R_alloc | apply Kd.R_drewN | apply Kd.R_drew)); exact (Kd.R_mono (Kd.R_far (p := ⟨zar, 1, none⟩) (Kd.R_far (p := ⟨zar, 0, none⟩) (Kd.R_types zaq.out zas.out (by decide)) (fun _ hk => hk.2) (.string ((rd_T43 t249 x43_2).f0))) (fun _ hk => hk.2) (.string ((rd_T43 t249 x43_2).f1))) (fun _ h_ => h_.1))) hb); have HO261 := Aside0.mk (Kd.R_lower (Kd.R_new' ho25 (Kd.R_lt (by (with_reducible repeat (first | apply Kd.R_alloc | apply Kd.R_drewN | apply Kd.R_drew)); exact (Kd.R_mono (Kd.R_far (p := ⟨zar, 1, none⟩) (Kd.R_far (p := ⟨zar, 0, none⟩) (Kd.R_types zad.out zas.out (by decide)) (fun _ hk => hk.2) (.string ((rd_T43 t249 x43_2).f0))) (fun _ hk => hk.2) (.string ((rd_T43 t249 x43_2).f1))) (fun _ h_ => h_.1))))) (below_size (M.up HB))); replace zad := Aside0.mk (Kd.R_elder' (by (with_reducible repeat (first | apply Kd.R_alloc | apply Kd.R_drewN | apply Kd.R_drew)); exact (Kd.R_mono (Kd.R_far (p := ⟨zar, 1, none⟩) (Kd.R_far (p := ⟨zar, 0, none⟩) (Kd.R_types zad.out zas.out (by decide)) (fun _ hk => hk.2) (.string ((rd_T43 t249 x43_2).f0))) (fun _ hk => hk.2) (.string ((rd_T43 t249 x43_2).f1))) (fun _ h_ => h_.1))) (Kd.R_base ho25) hb); replace zaf := Aside0.mk (blk_below (g := zae) (o := .cells #[.int .i64 t248, .slice (some ad257) t249.length co13, .slice Ao14 t252.length co14] 39 (0, 0)) (by refine M.fr ?_ zav; refine M.fr ?_ zav; exact M.bk zaf) hb); replace zas := Aside0.mk (blk_below (g := zar) (o := .cells #[.string ((rd_T43 t249 x43_2).f0), .string ((rd_T43 t249 x43_2).f1)] 43 (0, 0)) (by refine M.fp (cs := #[.string ((rd_T43 t249 x43_2).f0), .string (⟨#[]⟩ : ByteArray)]) ?_ 1; refine M.fp (cs := #[.string (⟨#[]⟩ : ByteArray), .string (⟨#[]⟩ : ByteArray)]) ?_ 0; exact M.bk zas) hb); replace HB := M.upS HB hb; clear hb ho25; obtain ⟨Ao27, co27, eo27⟩ := Kd.R_slice HO261.out; subst eo27) | ((with_reducible refine gate_builtin (b := .append) (xs := #[.tmp 50, .tmp 53]) rfl ?_); at_builtin; refine Kd.R_append_rows Kd.string (w0 := w) w.heap.size rfl (.tmp 50) (.tmp 53) 23 9 (.string ⟨#[]⟩) 16 rfl Tryd.underlying23 info9 rfl (by decide) (by omega) u4 x4_2 y259 _ _ _ (fun k_ => some k_ ≠ (.slice Ao27 y259.length co27 : Value).ownBlock) (fun _ => False) rfl rfl ?aO ?aR (fun _ _ h => h) (fun _ h => h.elim) ?aF ?aB ?aS ?aL ?_; (case aR => repeat (first | exact (Kd.R_reads' HO261.out).2.2 | (with_reducible refine Kd.C_alloc ?_ _) | (with_reducible refine Kd.C_drewN ?_ _) | (with_reducible refine Kd.C_drew ?_))); (case aB => exact (M.up HB)); (case aF => exact (fun k_ hk => Kd.fresh' (Kd.R_lt (M.ro HO261)) k_ hk)); (case aO => exact (by (with_reducible repeat (first | apply Kd.R_alloc | apply Kd.R_drewN | apply Kd.R_drew)); exact Kd.R_mono zad.out (fun _ hk => hk.2))); (case aS => exact (below_size (M.up HB))); (case aL => have := LMc19.out; omega); intro v263 w26 ho hb hg hat; rw [← Ny262.out] at ho; replace zao := Aside0.mk (Kd.R_over' (M.ro zao) (Kd.R_typed (M.ro zad)) (by decide) hg); replace zap := Aside0.mk (Kd.R_over' (M.ro zap) (Kd.R_typed (M.ro zad)) (by decide) hg); replace zaq := Aside0.mk (Kd.R_over' (M.ro zaq) (Kd.R_typed (M.ro zad)) (by decide) hg); replace zaf := Aside0.mk (blk_grown (g := zae) (o := .cells #[.int .i64 t248, .slice (some ad257) t249.length co13, .slice Ao14 t252.length co14] 39 (0, 0)) (M.bk zaf) hg (Kd.R_ne zad.out zaf.out (by decide))); replace zas := Aside0.mk (blk_grown (g := zar) (o := .cells #[.string ((rd_T43 t249 x43_2).f0), .string ((rd_T43 t249 x43_2).f1)] 43 (0, 0)) (M.bk zas) hg (Kd.R_ne zad.out zas.out (by decide))); replace HO261 := Aside0.mk (Kd.R_after (ok := (fun _ => True)) (M.ro HO261) hg hat); replace HB := Aside0.mk (hb); have HO264 := Aside0.mk (ho); clear zad; clear ho hb hg hat))
              go_roundg k2
              case measure => have := HJ5.out; have := HK2.out; omega
              case rel => exact ⟨(y262), (wrap64 (x43_2 + 1)), M.eqv, H', ⟨by have := HJ5.out; have := HK2.out; omega⟩, ⟨by (with_reducible repeat (first | apply Kd.R_alloc | apply Kd.R_drewN | apply Kd.R_drew)); exact Kd.R_mono HO264.out (fun _ hk => trivial)⟩, ⟨by (with_reducible repeat (first | apply Kd.R_alloc | apply Kd.R_drewN | apply Kd.R_drew)); exact Kd.R_mono zao.out (fun _ hk => trivial)⟩, ⟨by (with_reducible repeat (first | apply Kd.R_alloc | apply Kd.R_drewN | apply Kd.R_drew)); exact Kd.R_mono zap.out (fun _ hk => trivial)⟩, ⟨by (with_reducible repeat (first | apply Kd.R_alloc | apply Kd.R_drewN | apply Kd.R_drew)); exact zaq.out⟩, ⟨M.bk zaf⟩, ⟨M.up HB⟩⟩
             ·exact M.nf c19 H
            ·rw [if_neg c18] at H
             have c18b0 := decide_eq_false c18
             clear c18
             have H' := Aside0.mk H
             clear H
             have p257 : 0 ≤ (x43_2 : Int) := M.dt
             have q257 : x43_2 < (t249.length : Int) := M.dt
             obtain ⟨ad257, e257, hx257_0, hx257_1⟩ := at_T43 (Kd.R_reads' zao.out).2.2 x43_2 p257 q257
             cases e257
             replace p257 := eq_true p257
             replace q257 := eq_true q257
             go_wp2_with (first | ((with_reducible refine gate_dst (N := 9) rfl ?_); refine M.bx 9 43 (#[.string (⟨#[]⟩ : ByteArray), .string (⟨#[]⟩ : ByteArray)]) ?_; intro zar hg w28 hbox hb; replace zad := M.roB zad hb; replace zao := Aside0.mk (Kd.R_below (Kd.R_elderB (M.ro zao) zar (Nat.le_of_eq hg.symm)) hb); replace zap := Aside0.mk (Kd.R_below (Kd.R_elderB (M.ro zap) zar (Nat.le_of_eq hg.symm)) hb); replace zaq := M.roB zaq hb; have zas := Aside0.mk (hbox); have zat := M.upG HB hg; have zau := M.upG HB hg; replace HB := M.upS HB hb; have zav := M.bkL zaf hg; have zaw := M.bkG zaf hg; replace zaf := M.bkB zaf hb; clear hb hbox hg; have zaJ := zaw.out; have zaK := zav.out; obtain ⟨zaL, zaM⟩ := M.bc2 (w := w28) (a := .string (⟨#[]⟩ : ByteArray)) (b := .string (⟨#[]⟩ : ByteArray)) zas.out; obtain ⟨zaN, zaO⟩ := M.bf2 zas; obtain ⟨zaP, zaQ, zaR⟩ := M.bc3 (w := w28) (a := .int .i64 t248) (b := .slice (some ad257) t249.length co13) (c := .slice Ao14 t252.length co14) zaf.out; obtain ⟨zaS, zaT, zaU⟩ := M.bf3 zaf))
             go_roundg k2
             case measure => have := HJ5.out; have := HK2.out; omega
             case rel => exact ⟨(x4_2), (wrap64 (x43_2 + 1)), M.eqv, H', ⟨by have := HJ5.out; have := HK2.out; omega⟩, ⟨by (with_reducible repeat (first | apply Kd.R_alloc | apply Kd.R_drewN | apply Kd.R_drew)); exact Kd.R_mono (Kd.R_far (p := ⟨zar, 1, none⟩) (Kd.R_far (p := ⟨zar, 0, none⟩) (Kd.R_types zad.out zas.out (by decide)) (fun _ hk => hk.2) (.string ((rd_T43 t249 x43_2).f0))) (fun _ hk => hk.2) (.string ((rd_T43 t249 x43_2).f1))) (fun _ hk => trivial)⟩, ⟨by (with_reducible repeat (first | apply Kd.R_alloc | apply Kd.R_drewN | apply Kd.R_drew)); exact Kd.R_mono (Kd.R_far (p := ⟨zar, 1, none⟩) (Kd.R_far (p := ⟨zar, 0, none⟩) (Kd.R_mono zao.out (fun k_ hk => (⟨hk, hk.2⟩ : _ ∧ k_ ≠ zar))) (fun _ hk => hk.2) (.string ((rd_T43 t249 x43_2).f0))) (fun _ hk => hk.2) (.string ((rd_T43 t249 x43_2).f1))) (fun _ hk => trivial)⟩, ⟨by (with_reducible repeat (first | apply Kd.R_alloc | apply Kd.R_drewN | apply Kd.R_drew)); exact Kd.R_mono (Kd.R_far (p := ⟨zar, 1, none⟩) (Kd.R_far (p := ⟨zar, 0, none⟩) (Kd.R_mono zap.out (fun k_ hk => (⟨hk, hk.2⟩ : _ ∧ k_ ≠ zar))) (fun _ hk => hk.2) (.string ((rd_T43 t249 x43_2).f0))) (fun _ hk => hk.2) (.string ((rd_T43 t249 x43_2).f1))) (fun _ hk => trivial)⟩, ⟨by (with_reducible repeat (first | apply Kd.R_alloc | apply Kd.R_drewN | apply Kd.R_drew)); exact Kd.R_mono (Kd.R_far (p := ⟨zar, 1, none⟩) (Kd.R_far (p := ⟨zar, 0, none⟩) (Kd.R_types zaq.out zas.out (by decide)) (fun _ hk => hk.2) (.string ((rd_T43 t249 x43_2).f0))) (fun _ hk => hk.2) (.string ((rd_T43 t249 x43_2).f1))) (fun _ hk => trivial)⟩, ⟨by refine M.fr ?_ zav; refine M.fr ?_ zav; exact M.bk zaf⟩, ⟨M.up HB⟩⟩
           ·exact M.nf c17 H
          ·exact M.nf c16 H
         ·rw [if_neg c15] at H
          have c15b0 := decide_eq_false c15
          clear c15
          have H' := Aside0.mk H
          clear H
          go_wp2
          go_meet
          case rel => exact ⟨_, (x4_2), (t255), M.eqv, H', ⟨by have := HJ5.out; have := HK2.out; first | omega | exact Nat.le_refl _⟩, ⟨by (with_reducible repeat (first | apply Kd.R_alloc | apply Kd.R_drewN | apply Kd.R_drew)); exact zad.out⟩, ⟨M.up HB⟩⟩
      ·replace c8 := Bool.eq_false_iff.mpr c8
       subst c8
       have H1 : (if (bt a0 0) = 71 then ((quad_Take.f a0).bind fun bt265 => (mark_Names.j2 kj5 (([bt265.1, bt265.2.1, bt265.2.2.1, bt265.2.2.2.1] : List ByteArray)) bt265.2.2.2.2)) else ((commit_Take.f a0).bind fun bt274 => ((slices_Clone_string_string.f bt274.2.1).bind fun t282 => ((some (([bt274.2.2.1] : List ByteArray) : List ByteArray)).bind fun y285 => (if t282.length + y285.length < 8796093022208 then (mark_Names.j2 kj5 (t282 ++ y285) bt274.2.2.2.2) else (none)))))) = some (r1, r2) := by rw [if_neg (show ¬ (false = true) by decide)] at H; exact H
       clear H
       have H := H1
       clear H1
       by_cases c32 : (bt a0 0) = 71
       ·rw [if_pos c32] at H
        have c32b0 : ((bt a0 0) == 71) = true := beq_iff_eq.mpr c32
        have c32b1 : ((bt a0 0) != 71) = false := bne_eq_false_iff_eq.mpr c32
        clear c32
        replace H := Option.bind_eq_some_iff.mp H
        obtain ⟨⟨t265, t266, t267, t268, t269⟩, A330, H⟩ := H
        replace H : (mark_Names.j2 kj5 (([t265, t266, t267, t268] : List ByteArray)) t269) = some (r1, r2) := H
        have A33 := Aside0.mk A330
        clear A330
        obtain ⟨y271, hy271⟩ : ∃ y_ : List ByteArray, y_ = (([t265, t266, t267, t268] : List ByteArray)) := ⟨_, rfl⟩
        replace H : (mark_Names.j2 kj5 y271 t269) = some (r1, r2) := by first | (rw [hy271]; with_reducible exact H) | (have H2_ := (Option.bind_some _ _).symm.trans H; rw [hy271]; with_reducible exact H2_) | (have H2_ := (Option.bind_some _ _).symm.trans H; with_reducible exact H2_) | with_reducible exact H | (rw [hy271]; exact H) | exact H
        have Ny271 := Aside0.mk hy271
        clear hy271
        have H' := Aside0.mk H
        clear H
        go_wp2_with (first | ((with_reducible refine gate_callee (f := 12) rfl ?_); refine M.goes (some 60) Tryd.func12 #[.string a0] rfl ?_; (with_reducible refine (quad_Take.calls a0 t265 t266 t267 t268 t269 _ A33.out).mono ?_); rintro e w34 ⟨rfl, hb⟩; refine ⟨_, rfl, ?_⟩; replace zad := M.roB zad hb; replace HB := M.upS HB hb; (try clear hb)) | ((with_reducible refine gate_dst (N := 10) rfl ?_); refine M.bx 10 45 (#[.string (⟨#[]⟩ : ByteArray), .string (⟨#[]⟩ : ByteArray), .string (⟨#[]⟩ : ByteArray), .string (⟨#[]⟩ : ByteArray)]) ?_; intro zaV hg w35 hbox hb; replace zad := M.roB zad hb; have zaW := Aside0.mk (hbox); have zaX := M.upG HB hg; have zaY := M.upG HB hg; replace HB := M.upS HB hb; clear hb hbox hg; have zaZ : w35.cell? ⟨zaV, 0, none⟩ = some (.string (⟨#[]⟩ : ByteArray)) := (blk_cell zaW.out 0).trans rfl; have za0 : w35.cell? ⟨zaV, 1, none⟩ = some (.string (⟨#[]⟩ : ByteArray)) := (blk_cell zaW.out 1).trans rfl; have za1 : w35.cell? ⟨zaV, 2, none⟩ = some (.string (⟨#[]⟩ : ByteArray)) := (blk_cell zaW.out 2).trans rfl; have za2 : w35.cell? ⟨zaV, 3, none⟩ = some (.string (⟨#[]⟩ : ByteArray)) := (blk_cell zaW.out 3).trans rfl; have za3 := blk_frozen zaW.out 0; have za4 := blk_frozen zaW.out 1; have za5 := blk_frozen zaW.out 2; have za6 := blk_frozen zaW.out 3) | ((with_reducible refine gate_dst (N := 71) rfl ?_); refine Kd.R_lit Kd.string _ 9 ?hg (N := 71) ?hd (xs := ([t265, t266, t267, t268] : List ByteArray)) (inner := [.string t265, .string t266, .string t267, .string t268]) (ok := fun _ => True) (okp := fun _ => True) ?hr ?hp (fun _ hk => hk) trivial (Below.refl _ _) (Nat.le_refl _) (by simp) ?_; (case hd => rfl); (case hg => rfl); (case hr => first | (go_simp; done) | (go_simp; rfl)); (case hp => exact (Reps.one (show Kd.M Kd.string _ _ _ t265 [.string t265] from rfl) (Reps.one (show Kd.M Kd.string _ _ _ t266 [.string t266] from rfl) (Reps.one (show Kd.M Kd.string _ _ _ t267 [.string t267] from rfl) (Reps.one (show Kd.M Kd.string _ _ _ t268 [.string t268] from rfl) (Reps.none _ _)))))); intro v272 w37 ho38 hb hg_ hnew_; clear hg_ hnew_; (first | rw [← Ny271.out] at ho38 | (simp only [Int.reduceToNat] at ho38; rw [← Ny271.out] at ho38)); have HO273 := Aside0.mk (Kd.R_lower (Kd.R_new' ho38 (Kd.R_lt (by (with_reducible repeat (first | apply Kd.R_alloc | apply Kd.R_drewN | apply Kd.R_drew)); exact (Kd.R_mono (Kd.R_far (p := ⟨zaV, 3, none⟩) (Kd.R_far (p := ⟨zaV, 2, none⟩) (Kd.R_far (p := ⟨zaV, 1, none⟩) (Kd.R_far (p := ⟨zaV, 0, none⟩) (Kd.R_types zad.out zaW.out (by decide)) (fun _ hk => hk.2) (.string t265)) (fun _ hk => hk.2) (.string t266)) (fun _ hk => hk.2) (.string t267)) (fun _ hk => hk.2) (.string t268)) (fun _ h_ => h_.1))))) (below_size (M.up HB))); replace zad := Aside0.mk (Kd.R_elder' (by (with_reducible repeat (first | apply Kd.R_alloc | apply Kd.R_drewN | apply Kd.R_drew)); exact (Kd.R_mono (Kd.R_far (p := ⟨zaV, 3, none⟩) (Kd.R_far (p := ⟨zaV, 2, none⟩) (Kd.R_far (p := ⟨zaV, 1, none⟩) (Kd.R_far (p := ⟨zaV, 0, none⟩) (Kd.R_types zad.out zaW.out (by decide)) (fun _ hk => hk.2) (.string t265)) (fun _ hk => hk.2) (.string t266)) (fun _ hk => hk.2) (.string t267)) (fun _ hk => hk.2) (.string t268)) (fun _ h_ => h_.1))) (Kd.R_base ho38) hb); replace zaW := Aside0.mk (blk_below (g := zaV) (o := .cells #[.string t265, .string t266, .string t267, .string t268] 45 (0, 0)) (by refine M.fp (cs := #[.string t265, .string t266, .string t267, .string (⟨#[]⟩ : ByteArray)]) ?_ 3; refine M.fp (cs := #[.string t265, .string t266, .string (⟨#[]⟩ : ByteArray), .string (⟨#[]⟩ : ByteArray)]) ?_ 2; refine M.fp (cs := #[.string t265, .string (⟨#[]⟩ : ByteArray), .string (⟨#[]⟩ : ByteArray), .string (⟨#[]⟩ : ByteArray)]) ?_ 1; refine M.fp (cs := #[.string (⟨#[]⟩ : ByteArray), .string (⟨#[]⟩ : ByteArray), .string (⟨#[]⟩ : ByteArray), .string (⟨#[]⟩ : ByteArray)]) ?_ 0; exact M.bk zaW) hb); replace HB := M.upS HB hb; clear hb ho38))
        go_meet
        case rel => exact ⟨_, (y271), (t269), M.eqv, H', ⟨by have := HJ5.out; first | omega | exact Nat.le_refl _⟩, ⟨by (with_reducible repeat (first | apply Kd.R_alloc | apply Kd.R_drewN | apply Kd.R_drew)); exact Kd.R_mono HO273.out (fun _ hk => trivial)⟩, ⟨M.up HB⟩⟩
       ·rw [if_neg c32] at H
        have c32b0 : ((bt a0 0) == 71) = false := beq_eq_false_iff_ne.mpr c32
        have c32b1 : ((bt a0 0) != 71) = true := bne_iff_ne.mpr c32
        replace H := Option.bind_eq_some_iff.mp H
        obtain ⟨⟨t274, t275, t278, t279, t280⟩, A390, H⟩ := H
        replace H : ((slices_Clone_string_string.f t275).bind fun t282 => ((some (([t278] : List ByteArray) : List ByteArray)).bind fun y285 => (if t282.length + y285.length < 8796093022208 then (mark_Names.j2 kj5 (t282 ++ y285) t280) else (none)))) = some (r1, r2) := H
        have A39 := Aside0.mk A390
        clear A390
        replace H := Option.bind_eq_some_iff.mp H
        obtain ⟨t282, A400, H⟩ := H
        replace H : ((some (([t278] : List ByteArray) : List ByteArray)).bind fun y285 => (if t282.length + y285.length < 8796093022208 then (mark_Names.j2 kj5 (t282 ++ y285) t280) else (none))) = some (r1, r2) := H
        have A40 := Aside0.mk A400
        clear A400
        obtain ⟨y285, hy285⟩ : ∃ y_ : List ByteArray, y_ = (([t278] : List ByteArray)) := ⟨_, rfl⟩
        replace H : (if t282.length + y285.length < 8796093022208 then (mark_Names.j2 kj5 (t282 ++ y285) t280) else (none)) = some (r1, r2) := by first | (rw [hy285]; with_reducible exact H) | (have H2_ := (Option.bind_some _ _).symm.trans H; rw [hy285]; with_reducible exact H2_) | (have H2_ := (Option.bind_some _ _).symm.trans H; with_reducible exact H2_) | with_reducible exact H | (rw [hy285]; exact H) | exact H
        have Ny285 := Aside0.mk hy285
        clear hy285
        by_cases c41 : t282.length + y285.length < 8796093022208
        ·rw [if_pos c41] at H
         have LMc41 := Aside0.mk c41
         clear c41
         obtain ⟨y288, hy288⟩ : ∃ y_ : List ByteArray, y_ = (t282 ++ y285) := ⟨_, rfl⟩
         replace H : (mark_Names.j2 kj5 y288 t280) = some (r1, r2) := by first | (rw [hy288]; with_reducible exact H) | (have H2_ := (Option.bind_some _ _).symm.trans H; rw [hy288]; with_reducible exact H2_) | (have H2_ := (Option.bind_some _ _).symm.trans H; with_reducible exact H2_) | with_reducible exact H | (rw [hy288]; exact H) | exact H
         have Ny288 := Aside0.mk hy288
         clear hy288
         have H' := Aside0.mk H
         clear H
         try go_wp2_with (first | ((with_reducible refine gate_callee (f := 13) rfl ?_); refine M.goes (some 20) Tryd.func13 #[.string a0] rfl ?_; (with_reducible refine (commit_Take.calls a0 t274 t275 t278 t279 t280 _ A39.out).mono ?_); rintro e w42 ⟨v276, rfl, ho0, hb⟩; refine ⟨_, rfl, ?_⟩; have HO277 := Aside0.mk (Kd.R_lower (Kd.R_new' ho0 (Kd.R_lt (M.ro zad))) (below_size (M.up HB))); replace zad := Aside0.mk (Kd.R_elder' (M.ro zad) (Kd.R_base ho0) hb); replace HB := M.upS HB hb; (try clear hb); (try clear ho0)) | ((with_reducible refine gate_dst (N := 12) rfl ?_); refine M.bx 12 49 (#[.int .i64 0, .slice none 0 0, .string (⟨#[]⟩ : ByteArray), .string (⟨#[]⟩ : ByteArray)]) ?_; intro za7 hg w43 hbox hb; replace zad := M.roB zad hb; replace HO277 := M.roB HO277 hb; have za8 := Aside0.mk (hbox); have za9 := M.upG HB hg; have zba := M.upG HB hg; replace HB := M.upS HB hb; clear hb hbox hg; have zbb : w43.cell? ⟨za7, 0, none⟩ = some (.int .i64 0) := (blk_cell za8.out 0).trans rfl; have zbc : w43.cell? ⟨za7, 1, none⟩ = some (.slice none 0 0) := (blk_cell za8.out 1).trans rfl; have zbd : w43.cell? ⟨za7, 2, none⟩ = some (.string (⟨#[]⟩ : ByteArray)) := (blk_cell za8.out 2).trans rfl; have zbe : w43.cell? ⟨za7, 3, none⟩ = some (.string (⟨#[]⟩ : ByteArray)) := (blk_cell za8.out 3).trans rfl; have zbf := blk_frozen za8.out 0; have zbg := blk_frozen za8.out 1; have zbh := blk_frozen za8.out 2; have zbi := blk_frozen za8.out 3; obtain ⟨Ao45, co45, eo45⟩ := Kd.R_slice HO277.out; subst eo45))
         have n0_ : Aside0 (Kd.R Kd.string 9 ((((w43.setCell ⟨za7, 0, none⟩ (.int .i64 t274)).setCell ⟨za7, 1, none⟩ (.slice Ao45 t275.length co45)).setCell ⟨za7, 2, none⟩ (.string t278)).setCell ⟨za7, 3, none⟩ (.string t279)) w.heap.size (fun k_ => some k_ ≠ (.slice Ao45 t275.length co45 : Value).ownBlock) (.slice none 0 0) ([] : List ByteArray)) := ⟨by (with_reducible repeat (first | apply Kd.R_alloc | apply Kd.R_drewN | apply Kd.R_drew)); exact Kd.R_mono (Kd.R_far (p := ⟨za7, 3, none⟩) (Kd.R_far (p := ⟨za7, 2, none⟩) (Kd.R_far (p := ⟨za7, 1, none⟩) (Kd.R_far (p := ⟨za7, 0, none⟩) (Kd.R_types zad.out za8.out (by decide)) (fun _ hk => hk.2) (.int .i64 t274)) (fun _ hk => hk.2) (.slice Ao45 t275.length co45)) (fun _ hk => hk.2) (.string t278)) (fun _ hk => hk.2) (.string t279)) (fun _ hk => hk.1.2)⟩
         have n1_ : Aside0 (Kd.R Kd.string 9 ((((w43.setCell ⟨za7, 0, none⟩ (.int .i64 t274)).setCell ⟨za7, 1, none⟩ (.slice Ao45 t275.length co45)).setCell ⟨za7, 2, none⟩ (.string t278)).setCell ⟨za7, 3, none⟩ (.string t279)) w.heap.size (fun k_ => some k_ ≠ (.slice none 0 0 : Value).ownBlock) (.slice Ao45 t275.length co45) t275) := ⟨by (with_reducible repeat (first | apply Kd.R_alloc | apply Kd.R_drewN | apply Kd.R_drew)); exact Kd.R_mono (Kd.R_far (p := ⟨za7, 3, none⟩) (Kd.R_far (p := ⟨za7, 2, none⟩) (Kd.R_far (p := ⟨za7, 1, none⟩) (Kd.R_far (p := ⟨za7, 0, none⟩) (Kd.R_types HO277.out za8.out (by decide)) (fun _ hk => hk.2) (.int .i64 t274)) (fun _ hk => hk.2) (.slice Ao45 t275.length co45)) (fun _ hk => hk.2) (.string t278)) (fun _ hk => hk.2) (.string t279)) (fun _ hk => hk.1.2)⟩
         have n2_ : Aside0 (((((w43.setCell ⟨za7, 0, none⟩ (.int .i64 t274)).setCell ⟨za7, 1, none⟩ (.slice Ao45 t275.length co45)).setCell ⟨za7, 2, none⟩ (.string t278)).setCell ⟨za7, 3, none⟩ (.string t279)).heap[za7]? = some (.cells #[.int .i64 t274, .slice Ao45 t275.length co45, .string t278, .string t279] 49 (0, 0))) := ⟨by refine M.fp (cs := #[.int .i64 t274, .slice Ao45 t275.length co45, .string t278, .string (⟨#[]⟩ : ByteArray)]) ?_ 3; refine M.fp (cs := #[.int .i64 t274, .slice Ao45 t275.length co45, .string (⟨#[]⟩ : ByteArray), .string (⟨#[]⟩ : ByteArray)]) ?_ 2; refine M.fp (cs := #[.int .i64 t274, .slice none 0 0, .string (⟨#[]⟩ : ByteArray), .string (⟨#[]⟩ : ByteArray)]) ?_ 1; refine M.fp (cs := #[.int .i64 0, .slice none 0 0, .string (⟨#[]⟩ : ByteArray), .string (⟨#[]⟩ : ByteArray)]) ?_ 0; exact M.bk za8⟩
         have n3_ : Aside0 (Below w.heap.size w ((((w43.setCell ⟨za7, 0, none⟩ (.int .i64 t274)).setCell ⟨za7, 1, none⟩ (.slice Ao45 t275.length co45)).setCell ⟨za7, 2, none⟩ (.string t278)).setCell ⟨za7, 3, none⟩ (.string t279))) := ⟨M.up HB⟩
         (try clear zad)
         (try clear HO277)
         (try clear za8)
         (try clear HB)
         generalize ((((w43.setCell ⟨za7, 0, none⟩ (.int .i64 t274)).setCell ⟨za7, 1, none⟩ (.slice Ao45 t275.length co45)).setCell ⟨za7, 2, none⟩ (.string t278)).setCell ⟨za7, 3, none⟩ (.string t279)) = w46 at n0_ n1_ n2_ n3_ ⊢
         have zad := n0_
         have HO277 := n1_
         have za8 := n2_
         have HB := n3_
         clear n0_ n1_ n2_ n3_
         replace zad := Aside0.mk (Kd.R_drew zad.out); replace HO277 := Aside0.mk (Kd.R_drew HO277.out); replace za8 := Aside0.mk (blk_drew za8.out); replace HB := Aside0.mk (below_drew1 HB.out)
         refine start_ (n := 10) (S := fun w' => w'.cell? ⟨za7, 0, none⟩ = some (.int .i64 t274) ∧ w'.cell? ⟨za7, 1, none⟩ = some (.slice Ao45 t275.length co45) ∧ w'.cell? ⟨za7, 2, none⟩ = some (.string t278) ∧ w'.cell? ⟨za7, 3, none⟩ = some (.string t279)) (ds := []) #[false, false, false, false, false, false, false, false, false, false] (by kernel_rfl) rfl rfl ⟨(blk_cell za8.out 0).trans rfl, (blk_cell za8.out 1).trans rfl, (blk_cell za8.out 2).trans rfl, (blk_cell za8.out 3).trans rfl⟩ (fun hHeld => ?_); refine with_tabW mark_Names.tab7 mark_Names.bits7 (fun HT_ HW_ => ?_)
         generalize w46.drew = w47 at zad HO277 za8 HB hHeld ⊢
         refine M.pu 0 23 [1, 9] HT_ ?_
         refine M.pu 3 26 [1, 2, 1, 6] HT_ ?_
         refine M.pu 7 30 [1, 2, 1, 3, 1, 2] HT_ ?_
         refine M.tk 1 24 [2, 1, 1, 3, 1, 2] HT_ HW_ hHeld ?_
         refine M.tk 4 27 [2, 1, 2, 2, 1, 2] HT_ HW_ hHeld ?_
         refine join_ (σ := Value × Value) 3 #[true, true, true, true, true, true, false, true, false, false] (fun s_ => [(25, s_.1), (28, s_.2)]) (fun s_ w' => (w'.cell? ⟨za7, 0, none⟩ = some (.int .i64 t274) ∧ w'.cell? ⟨za7, 1, none⟩ = some (.slice Ao45 t275.length co45) ∧ w'.cell? ⟨za7, 2, none⟩ = some (.string t278) ∧ w'.cell? ⟨za7, 3, none⟩ = some (.string t279)) ∧ (Kd.R Kd.string 9 w' w.heap.size (fun k_ => some k_ ≠ (s_.1 : Value).ownBlock ∧ some k_ ≠ (s_.2 : Value).ownBlock ∧ some k_ ≠ (.slice none 0 0 : Value).ownBlock) (.slice Ao45 t275.length co45) t275) ∧ (Kd.R Kd.string 9 w' w.heap.size (fun k_ => some k_ ≠ (.slice Ao45 t275.length co45 : Value).ownBlock ∧ some k_ ≠ (s_.2 : Value).ownBlock ∧ some k_ ≠ (.slice none 0 0 : Value).ownBlock) s_.1 t282) ∧ (Kd.R Kd.string 9 w' w.heap.size (fun k_ => some k_ ≠ (.slice Ao45 t275.length co45 : Value).ownBlock ∧ some k_ ≠ (s_.1 : Value).ownBlock ∧ some k_ ≠ (.slice none 0 0 : Value).ownBlock) s_.2 y285) ∧ (Kd.R Kd.string 9 w' w.heap.size (fun k_ => some k_ ≠ (.slice Ao45 t275.length co45 : Value).ownBlock ∧ some k_ ≠ (s_.1 : Value).ownBlock ∧ some k_ ≠ (s_.2 : Value).ownBlock) (.slice none 0 0) ([] : List ByteArray)) ∧ (w'.heap[za7]? = some (.cells #[.int .i64 t274, .slice Ao45 t275.length co45, .string t278, .string t279] 49 (0, 0))) ∧ (Below w.heap.size w w')) ?_ ?_
         rotate_left
         ·intro hCont
          refine two_ (i := 2) (j := 5) (Ni := some 25) (Nj := some 28) #[true, true, true, true, true, false, false, true, false, false] #[true, true, false, true, true, true, false, true, false, false] rfl rfl rfl rfl (two_of HT_.out (by kernel_rfl)) (by decide) (by decide) (fun K hK => ?_) (fun K hK => ?_)
          ·skip
           refine goes_ Tryd.func14 (by kernel_rfl) rfl #[.slice Ao45 t275.length co45] (by rfl) rfl rfl (by (try simp only [List.map_toArray, List.map_cons, List.map_nil]); first | done | rfl | (simp only [List.length_drop, List.length_take]; rfl)) ?_
           with_reducible refine (slices_Clone_string_string.calls _ _ t275 t282 _ ?side1 ?side2 A40.out).mono ?_
           (case side1 => repeat (first | exact (Kd.R_reads' HO277.out).2.2 | (with_reducible refine Kd.C_alloc ?_ _) | (with_reducible refine Kd.C_drewN ?_ _) | (with_reducible refine Kd.C_drew ?_)))
           (case side2 => exact (Kd.R_reads' HO277.out).2.1)
           rintro e w48 ⟨v283, rfl, ho0, hb⟩
           refine ⟨_, rfl, ?_⟩
           have HO284 := Aside0.mk (Kd.R_lower (Kd.R_new' (Kd.R_new' ho0 (Kd.R_lt (M.ro zad))) (Kd.R_lt (M.ro HO277))) (below_size (M.up HB))); replace zad := Aside0.mk (Kd.R_elder' (M.ro zad) (Kd.R_base ho0) hb); replace HO277 := Aside0.mk (Kd.R_elder' (M.ro HO277) (Kd.R_base ho0) hb); replace za8 := M.bkB za8 hb; replace HB := M.upS HB hb
           (try clear hb)
           (try clear hb2)
           (try clear hk)
           (try clear hi)
           (try clear ho0)
           refine hK.out _ _ ⟨(blk_cell za8.out 0).trans rfl, (blk_cell za8.out 1).trans rfl, (blk_cell za8.out 2).trans rfl, (blk_cell za8.out 3).trans rfl⟩ (fun hHeld => ?_)
           clear hK K
           refine norm_ (a' := ?_) ?_ ?_
           rotate_left
           ·show Act.put _ (some 25) _ = _
            simp only [Act.put, List.setIfInBounds_toArray, List.set_cons_zero, List.set_cons_succ, i64_w, i32_w]
            rfl
           refine one_ (i := 5) (N := some 28) #[true, true, true, true, true, true, false, true, false, false] rfl rfl (one_of HT_.out (by kernel_rfl)) (by decide) (fun K hK => ?_)
           refine Kd.R_lit_step Kd.string _ 9 ?hg (N := 28) ?hd (xs := ([t278] : List ByteArray)) (inner := [.string t278]) (ok := fun _ => True) (okp := fun _ => True) ?hr ?hp (fun _ hk => hk) trivial (Below.refl _ _) (Nat.le_refl _) (by simp) ?_; (case hd => rfl); (case hg => rfl); (case hr => first | (go_simp; done) | (go_simp; rfl)); (case hp => exact (Reps.one (show Kd.M Kd.string _ _ _ t278 [.string t278] from rfl) (Reps.none _ _)))
           intro v286 w49 ho50 hb hg_ hnew_
           clear hg_ hnew_
           (first | rw [← Ny285.out] at ho50 | (simp only [Int.reduceToNat] at ho50; rw [← Ny285.out] at ho50))
           have HO287 := Aside0.mk (Kd.R_lower (Kd.R_new' (Kd.R_new' (Kd.R_new' ho50 (Kd.R_lt (M.ro zad))) (Kd.R_lt (M.ro HO277))) (Kd.R_lt (M.ro HO284))) (below_size (M.up HB))); replace zad := Aside0.mk (Kd.R_elder' (M.ro zad) (Kd.R_base ho50) hb); replace HO277 := Aside0.mk (Kd.R_elder' (M.ro HO277) (Kd.R_base ho50) hb); replace HO284 := Aside0.mk (Kd.R_elder' (M.ro HO284) (Kd.R_base ho50) hb); replace za8 := M.bkB za8 hb; replace HB := M.upS HB hb
           clear hb ho50
           refine hK.out _ _ ⟨(blk_cell za8.out 0).trans rfl, (blk_cell za8.out 1).trans rfl, (blk_cell za8.out 2).trans rfl, (blk_cell za8.out 3).trans rfl⟩ (fun hHeld => ?_)
           clear hK K
           refine norm_ (a' := ?_) ?_ ?_
           rotate_left
           ·show Act.put _ (some 28) _ = _
            simp only [Act.put, List.setIfInBounds_toArray, List.set_cons_zero, List.set_cons_succ, i64_w, i32_w]
            rfl
           exact norm_ (by simp only [putAll, Act.put, List.setIfInBounds_toArray, List.set_cons_zero, List.set_cons_succ]) (hCont (v283, v286) _ ⟨hHeld, (by (with_reducible repeat (first | apply Kd.R_alloc | apply Kd.R_drewN | apply Kd.R_drew)); exact Kd.R_mono HO277.out (fun _ hk => ⟨hk.1.2, ⟨hk.2, hk.1.1⟩⟩)), (by (with_reducible repeat (first | apply Kd.R_alloc | apply Kd.R_drewN | apply Kd.R_drew)); exact Kd.R_mono HO284.out (fun _ hk => ⟨hk.1.2, ⟨hk.2, hk.1.1.2⟩⟩)), (by (with_reducible repeat (first | apply Kd.R_alloc | apply Kd.R_drewN | apply Kd.R_drew)); exact Kd.R_mono HO287.out (fun _ hk => ⟨hk.1.2, ⟨hk.2, hk.1.1.2⟩⟩)), (by (with_reducible repeat (first | apply Kd.R_alloc | apply Kd.R_drewN | apply Kd.R_drew)); exact Kd.R_mono zad.out (fun _ hk => ⟨hk.1.1, ⟨hk.1.2, hk.2⟩⟩)), (M.bk za8), (M.up HB)⟩)
          ·skip
           refine Kd.R_lit_step Kd.string _ 9 ?hg (N := 28) ?hd (xs := ([t278] : List ByteArray)) (inner := [.string t278]) (ok := fun _ => True) (okp := fun _ => True) ?hr ?hp (fun _ hk => hk) trivial (Below.refl _ _) (Nat.le_refl _) (by simp) ?_; (case hd => rfl); (case hg => rfl); (case hr => first | (go_simp; done) | (go_simp; rfl)); (case hp => exact (Reps.one (show Kd.M Kd.string _ _ _ t278 [.string t278] from rfl) (Reps.none _ _)))
           intro v286 w48 ho49 hb hg_ hnew_
           clear hg_ hnew_
           (first | rw [← Ny285.out] at ho49 | (simp only [Int.reduceToNat] at ho49; rw [← Ny285.out] at ho49))
           have HO287 := Aside0.mk (Kd.R_lower (Kd.R_new' (Kd.R_new' ho49 (Kd.R_lt (M.ro zad))) (Kd.R_lt (M.ro HO277))) (below_size (M.up HB))); replace zad := Aside0.mk (Kd.R_elder' (M.ro zad) (Kd.R_base ho49) hb); replace HO277 := Aside0.mk (Kd.R_elder' (M.ro HO277) (Kd.R_base ho49) hb); replace za8 := M.bkB za8 hb; replace HB := M.upS HB hb
           clear hb ho49
           refine hK.out _ _ ⟨(blk_cell za8.out 0).trans rfl, (blk_cell za8.out 1).trans rfl, (blk_cell za8.out 2).trans rfl, (blk_cell za8.out 3).trans rfl⟩ (fun hHeld => ?_)
           clear hK K
           refine norm_ (a' := ?_) ?_ ?_
           rotate_left
           ·show Act.put _ (some 28) _ = _
            simp only [Act.put, List.setIfInBounds_toArray, List.set_cons_zero, List.set_cons_succ, i64_w, i32_w]
            rfl
           refine one_ (i := 2) (N := some 25) #[true, true, true, true, true, true, false, true, false, false] rfl rfl (one_of HT_.out (by kernel_rfl)) (by decide) (fun K hK => ?_)
           refine goes_ Tryd.func14 (by kernel_rfl) rfl #[.slice Ao45 t275.length co45] (by rfl) rfl rfl (by (try simp only [List.map_toArray, List.map_cons, List.map_nil]); first | done | rfl | (simp only [List.length_drop, List.length_take]; rfl)) ?_
           with_reducible refine (slices_Clone_string_string.calls _ _ t275 t282 _ ?side1 ?side2 A40.out).mono ?_
           (case side1 => repeat (first | exact (Kd.R_reads' HO277.out).2.2 | (with_reducible refine Kd.C_alloc ?_ _) | (with_reducible refine Kd.C_drewN ?_ _) | (with_reducible refine Kd.C_drew ?_)))
           (case side2 => exact (Kd.R_reads' HO277.out).2.1)
           rintro e w50 ⟨v283, rfl, ho0, hb⟩
           refine ⟨_, rfl, ?_⟩
           have HO284 := Aside0.mk (Kd.R_lower (Kd.R_new' (Kd.R_new' (Kd.R_new' ho0 (Kd.R_lt (M.ro zad))) (Kd.R_lt (M.ro HO277))) (Kd.R_lt (M.ro HO287))) (below_size (M.up HB))); replace zad := Aside0.mk (Kd.R_elder' (M.ro zad) (Kd.R_base ho0) hb); replace HO277 := Aside0.mk (Kd.R_elder' (M.ro HO277) (Kd.R_base ho0) hb); replace HO287 := Aside0.mk (Kd.R_elder' (M.ro HO287) (Kd.R_base ho0) hb); replace za8 := M.bkB za8 hb; replace HB := M.upS HB hb
           (try clear hb)
           (try clear hb2)
           (try clear hk)
           (try clear hi)
           (try clear ho0)
           refine hK.out _ _ ⟨(blk_cell za8.out 0).trans rfl, (blk_cell za8.out 1).trans rfl, (blk_cell za8.out 2).trans rfl, (blk_cell za8.out 3).trans rfl⟩ (fun hHeld => ?_)
           clear hK K
           refine norm_ (a' := ?_) ?_ ?_
           rotate_left
           ·show Act.put _ (some 25) _ = _
            simp only [Act.put, List.setIfInBounds_toArray, List.set_cons_zero, List.set_cons_succ, i64_w, i32_w]
            rfl
           exact norm_ (by simp only [putAll, Act.put, List.setIfInBounds_toArray, List.set_cons_zero, List.set_cons_succ]) (hCont (v283, v286) _ ⟨hHeld, (by (with_reducible repeat (first | apply Kd.R_alloc | apply Kd.R_drewN | apply Kd.R_drew)); exact Kd.R_mono HO277.out (fun _ hk => ⟨hk.2, ⟨hk.1.2, hk.1.1⟩⟩)), (by (with_reducible repeat (first | apply Kd.R_alloc | apply Kd.R_drewN | apply Kd.R_drew)); exact Kd.R_mono HO284.out (fun _ hk => ⟨hk.1.2, ⟨hk.2, hk.1.1.2⟩⟩)), (by (with_reducible repeat (first | apply Kd.R_alloc | apply Kd.R_drewN | apply Kd.R_drew)); exact Kd.R_mono HO287.out (fun _ hk => ⟨hk.1.2, ⟨hk.2, hk.1.1.2⟩⟩)), (by (with_reducible repeat (first | apply Kd.R_alloc | apply Kd.R_drewN | apply Kd.R_drew)); exact Kd.R_mono zad.out (fun _ hk => ⟨hk.1.1, ⟨hk.2, hk.1.2⟩⟩)), (M.bk za8), (M.up HB)⟩)
         rintro ⟨v283, v286⟩ w51 ⟨hS_, h0_, h1_, h2_, h3_, h4_, h5_⟩
         have n0_ : Aside0 (Kd.R Kd.string 9 w51 w.heap.size (fun k_ => some k_ ≠ (v283 : Value).ownBlock ∧ some k_ ≠ (v286 : Value).ownBlock ∧ some k_ ≠ (.slice none 0 0 : Value).ownBlock) (.slice Ao45 t275.length co45) t275) := ⟨h0_⟩
         have n1_ : Aside0 (Kd.R Kd.string 9 w51 w.heap.size (fun k_ => some k_ ≠ (.slice Ao45 t275.length co45 : Value).ownBlock ∧ some k_ ≠ (v286 : Value).ownBlock ∧ some k_ ≠ (.slice none 0 0 : Value).ownBlock) v283 t282) := ⟨h1_⟩
         have n2_ : Aside0 (Kd.R Kd.string 9 w51 w.heap.size (fun k_ => some k_ ≠ (.slice Ao45 t275.length co45 : Value).ownBlock ∧ some k_ ≠ (v283 : Value).ownBlock ∧ some k_ ≠ (.slice none 0 0 : Value).ownBlock) v286 y285) := ⟨h2_⟩
         have n3_ : Aside0 (Kd.R Kd.string 9 w51 w.heap.size (fun k_ => some k_ ≠ (.slice Ao45 t275.length co45 : Value).ownBlock ∧ some k_ ≠ (v283 : Value).ownBlock ∧ some k_ ≠ (v286 : Value).ownBlock) (.slice none 0 0) ([] : List ByteArray)) := ⟨h3_⟩
         have n4_ : Aside0 (w51.heap[za7]? = some (.cells #[.int .i64 t274, .slice Ao45 t275.length co45, .string t278, .string t279] 49 (0, 0))) := ⟨h4_⟩
         have n5_ : Aside0 (Below w.heap.size w w51) := ⟨h5_⟩
         clear zad HO277 za8 HB
         clear h0_ h1_ h2_ h3_ h4_ h5_
         have HO277 := n0_
         have HO284 := n1_
         have HO287 := n2_
         have zad := n3_
         have za8 := n4_
         have HB := n5_
         clear n0_ n1_ n2_ n3_ n4_ n5_
         have hHeld : w51.cell? ⟨za7, 0, none⟩ = some (.int .i64 t274) ∧ w51.cell? ⟨za7, 1, none⟩ = some (.slice Ao45 t275.length co45) ∧ w51.cell? ⟨za7, 2, none⟩ = some (.string t278) ∧ w51.cell? ⟨za7, 3, none⟩ = some (.string t279) := hS_
         obtain ⟨Ao53, co53, eo53⟩ := Kd.R_slice HO287.out
         (first | subst eo53 | (injection eo53 with f1_ f2_ f3_; have f4_ := f1_.symm; have f5_ := f3_.symm; clear f1_ f2_ f3_; subst f4_; subst f5_))
         refine norm_ (a' := ?_) ?_ ?_
         rotate_left
         ·simp only [putAll, Act.put, List.setIfInBounds_toArray, List.set_cons_zero, List.set_cons_succ]
          rfl
         refine one_ (i := 6) (N := some 29) #[true, true, true, true, true, true, true, true, false, false] rfl rfl (one_of HT_.out (by kernel_rfl)) (by decide) (fun K hK => ?_)
         refine Kd.R_append_rows_step Kd.string (w0 := w) w.heap.size (by rfl) (.tmp 25) (.tmp 28) 23 9 (.string ⟨#[]⟩) 16 rfl Tryd.underlying23 info9 rfl (by decide) (by omega) v283 t282 y285 _ _ _ (fun k_ => some k_ ≠ (.slice none 0 0 : Value).ownBlock ∧ some k_ ≠ (.slice Ao45 t275.length co45 : Value).ownBlock ∧ some k_ ≠ (.slice Ao53 y285.length co53 : Value).ownBlock) (fun _ => False) rfl rfl ?aO ?aR (fun _ _ h => h) (fun _ h => h.elim) ?aF ?aB ?aS ?aL ?_
         (case aR => repeat (first | exact (Kd.R_reads' HO287.out).2.2 | (with_reducible refine Kd.C_alloc ?_ _) | (with_reducible refine Kd.C_drewN ?_ _) | (with_reducible refine Kd.C_drew ?_)))
         (case aB => exact (M.up HB))
         (case aF => exact (fun k_ hk => ⟨Kd.fresh' (Kd.R_lt (M.ro zad)) k_ hk, Kd.fresh' (Kd.R_lt (M.ro HO277)) k_ hk, Kd.fresh' (Kd.R_lt (M.ro HO287)) k_ hk⟩))
         (case aO => exact (by (with_reducible repeat (first | apply Kd.R_alloc | apply Kd.R_drewN | apply Kd.R_drew)); exact Kd.R_mono HO284.out (fun _ hk => ⟨hk.2.2, ⟨hk.1, hk.2.1⟩⟩)))
         (case aS => exact (below_size (M.up HB)))
         (case aL => have := LMc41.out; omega)
         intro v289 w52 ho hb hg hat
         rw [← Ny288.out] at ho
         replace zad := Aside0.mk (Kd.R_after (ok := (fun k_ => some k_ ≠ (.slice Ao45 t275.length co45 : Value).ownBlock ∧ some k_ ≠ (.slice Ao53 y285.length co53 : Value).ownBlock)) (by (with_reducible repeat (first | apply Kd.R_alloc | apply Kd.R_drewN | apply Kd.R_drew)); exact Kd.R_mono zad.out (fun _ hk => ⟨⟨hk.1, hk.2.2⟩, hk.2.1⟩)) hg hat); replace HO277 := Aside0.mk (Kd.R_after (ok := (fun k_ => some k_ ≠ (.slice none 0 0 : Value).ownBlock ∧ some k_ ≠ (.slice Ao53 y285.length co53 : Value).ownBlock)) (by (with_reducible repeat (first | apply Kd.R_alloc | apply Kd.R_drewN | apply Kd.R_drew)); exact Kd.R_mono HO277.out (fun _ hk => ⟨⟨hk.2.2, hk.2.1⟩, hk.1⟩)) hg hat); replace za8 := Aside0.mk (blk_grown (g := za7) (o := .cells #[.int .i64 t274, .slice Ao45 t275.length co45, .string t278, .string t279] 49 (0, 0)) (M.bk za8) hg (Kd.R_ne HO284.out za8.out (by decide))); replace HO287 := Aside0.mk (Kd.R_after (ok := (fun k_ => some k_ ≠ (.slice none 0 0 : Value).ownBlock ∧ some k_ ≠ (.slice Ao45 t275.length co45 : Value).ownBlock)) (by (with_reducible repeat (first | apply Kd.R_alloc | apply Kd.R_drewN | apply Kd.R_drew)); exact Kd.R_mono HO287.out (fun _ hk => ⟨⟨hk.2.2, hk.1⟩, hk.2.1⟩)) hg hat); replace HB := Aside0.mk (hb); have HO290 := Aside0.mk (ho); clear HO284
         clear ho hb hg hat
         refine hK.out _ _ ⟨(blk_cell za8.out 0).trans rfl, (blk_cell za8.out 1).trans rfl, (blk_cell za8.out 2).trans rfl, (blk_cell za8.out 3).trans rfl⟩ (fun hHeld => ?_)
         clear hK K
         refine norm_ (a' := ?_) ?_ ?_
         rotate_left
         ·show Act.put _ (some 29) _ = _
          simp only [Act.put, List.setIfInBounds_toArray, List.set_cons_zero, List.set_cons_succ, i64_w, i32_w]
          rfl
         refine M.pu 8 4 [9, 1] HT_ ?_
         refine M.pu 9 5 [10] HT_ ?_
         refine done_ (done_of HT_.out (by kernel_rfl)) ?_
         try go_wp2
         go_meet
         case rel => exact ⟨_, (y288), (t280), M.eqv, H', ⟨by have := HJ5.out; first | omega | exact Nat.le_refl _⟩, ⟨by (with_reducible repeat (first | apply Kd.R_alloc | apply Kd.R_drewN | apply Kd.R_drew)); exact Kd.R_mono HO290.out (fun _ hk => trivial)⟩, ⟨M.up HB⟩⟩
        ·exact M.nf c41 H
   case rest =>
    clear HC5
    (try clear c1); (try clear c2); (try clear c2b0); (try clear c2b1); (try clear p2); (try clear q2); (try clear hx2); (try clear c3); (try clear c3b0); (try clear c3b1); (try clear c4); (try clear p4); (try clear q4); (try clear hx4); (try clear qi4); (try clear c5); (try clear p6); (try clear c7); (try clear c7b0); (try clear c7b1); (try clear c8); (try clear c11); (try clear c12); (try clear c13); (try clear c14); (try clear c15); (try clear c15b0); (try clear c16); (try clear c16b0); (try clear c17); (try clear c17b0); (try clear c18); (try clear c18b0); (try clear c19); (try clear c21); (try clear p25); (try clear q25); (try clear hx25); (try clear c29); (try clear c32); (try clear c32b0); (try clear c32b1); (try clear c41); (try clear zai); (try clear zaj); (try clear zak); (try clear zaz); (try clear zaA); (try clear zaD); (try clear zaE); (try clear zaF); (try clear zaL); (try clear zaM); (try clear zaP); (try clear zaQ); (try clear zaR); (try clear zaZ); (try clear za0); (try clear za1); (try clear za2); (try clear zbb); (try clear zbc); (try clear zbd); (try clear zbe); (try clear zal); (try clear zam); (try clear zan); (try clear zaB); (try clear zaC); (try clear zaG); (try clear zaH); (try clear zaI); (try clear zaN); (try clear zaO); (try clear zaS); (try clear zaT); (try clear zaU); (try clear za3); (try clear za4); (try clear za5); (try clear za6); (try clear zbf); (try clear zbg); (try clear zbh); (try clear zbi); (try clear hx257_0); (try clear hx257_1); (try clear p2); (try clear p257); (try clear p4); (try clear q257); (try clear q4)
    obtain ⟨kq, x4_4, x5_4, rfl, HA, HJ4, zad, HB⟩ := hcut
    cases kq with
    | zero => exact absurd HA.out (by simp [mark_Names.j2])
    | succ kj4 =>
     have H := HA.out
     clear HA
     simp only [mark_Names.j2] at H
     by_cases c54 : x5_4 = 0
     ·rw [if_pos c54] at H
      have c54b0 : (x5_4 == 0) = true := beq_iff_eq.mpr c54
      have c54b1 : (x5_4 != 0) = false := bne_eq_false_iff_eq.mpr c54
      clear c54
      simp only [Option.some.injEq, Prod.mk.injEq] at H
      obtain ⟨rfl, rfl⟩ := H
      go_wp2
      go_ret2
      exact ⟨_, M.eqe, by (with_reducible repeat (first | apply Kd.R_alloc | apply Kd.R_drewN | apply Kd.R_drew)); exact zad.out, M.up HB⟩
     ·rw [if_neg c54] at H
      have c54b0 : (x5_4 == 0) = false := beq_eq_false_iff_ne.mpr c54
      have c54b1 : (x5_4 != 0) = true := bne_iff_ne.mpr c54
      simp only [Option.some.injEq, Prod.mk.injEq] at H
      obtain ⟨rfl, rfl⟩ := H
      go_wp2
      go_ret2
      exact ⟨_, M.eqe, M.nl, M.up HB⟩
  ·exact M.nf c3 H
set_option maxHeartbeats 8000000 in
set_option maxRecDepth 100000 in
theorem shelf_Shelf_Get.none_ (base g B : Nat) (D : DataW Unit) (vt vn : Value) (ts : List ByteArray) (a b name : ByteArray) (w : World) (hS : M.shelf Tryd.prog base w g B D vt vn ts a b) (hz : name.size ≤ 9223372036854775807) (hn : M.idx (ts.map M.shaSum) name.data.toList = none) :
    Calls Tryd.prog 20 #[.pointer (some ⟨g, 0, none⟩), .string name] w fun e w' => e = .returned (.tuple #[.string ByteArray.empty, .bool false]) ∧ w = w' := by
 have c0 : w.cell? ⟨g, 0, none⟩ = some (.map (some B)) := M.blk_cell hS.blk 0 _ rfl
 have hKEY := Go.WideMaps.keyOf_string_mk Tryd.underlying9 (show name.size ≤ maxLen from by unfold maxLen; omega)
 have hown := hS.map
 have h1 := (hS.says name.data.toList).1
 have h2 := (hS.says name.data.toList).2
 rw [hn] at h1 h2
 have HS := Aside0.mk hS
 clear hS
 go_enter Tryd.func20, Tryd.ntmps20
 go_wp2_with (first | (go_at_call 18; (with_reducible refine (shelf_Shelf_there.calls base g B D vt vn ts a b _ HS.out).mono ?_); rintro e w1 ⟨rfl, rfl⟩) | (at_lookup; refine wpList_lookup_own_ok_int _ rfl _ _ 59 rfl 9 3 .i64 shelf_Shelf_there.law Tryd.underlying59 Tryd.underlying3 (shelf_Shelf_there.zero_ _) B ts.length D rfl hown _ _ rfl hKEY ?_; intro c hat hwc))
 exact bodyPost_ret (v := .tuple #[.string ByteArray.empty, .bool false]) (by simp [results, Tryd.results20, go_sem]; rfl) rfl ⟨rfl, rfl⟩
set_option maxHeartbeats 8000000 in
set_option maxRecDepth 100000 in
theorem shelf_Shelf_Get.some_ (base g B : Nat) (D : DataW Unit) (vt vn : Value) (ts : List ByteArray) (a b name : ByteArray) (i : Nat) (w : World) (hS : M.shelf Tryd.prog base w g B D vt vn ts a b) (hz : name.size ≤ 9223372036854775807) (hn : M.idx (ts.map M.shaSum) name.data.toList = some i) :
    Calls Tryd.prog 20 #[.pointer (some ⟨g, 0, none⟩), .string name] w fun e w' => e = .returned (.tuple #[.string (ts.getD i ByteArray.empty), .bool true]) ∧ w = w' := by
 have hi : i < ts.length := by have := (M.idx_lt hn).1; simpa using this
 obtain ⟨gt, cap, rfl, _, _⟩ := hS.rt.form (by omega)
 have c0 : w.cell? ⟨g, 0, none⟩ = some (.map (some B)) := M.blk_cell hS.blk 0 _ rfl
 have c1 : w.cell? ⟨g, 1, none⟩ = some (.slice (some ⟨gt, 0, none⟩) ts.length cap) := M.blk_cell hS.blk 1 _ rfl
 have ci := hS.rt.cells (g := gt) rfl i (.string (ts.getD i ByteArray.empty)) (by simp [List.getD, hi])
 rw [add_plain] at ci
 have hKEY := Go.WideMaps.keyOf_string_mk Tryd.underlying9 (show name.size ≤ maxLen from by unfold maxLen; omega)
 have hown := hS.map
 have h1 := (hS.says name.data.toList).1
 have h2 := (hS.says name.data.toList).2
 rw [hn] at h1 h2
 have HS := Aside0.mk hS
 have g0 : (0 : Int) ≤ (i : Int) := by omega
 have g1 : (i : Int) < (ts.length : Int) := by omega
 clear hS
 generalize ts.getD i ByteArray.empty = x at ci ⊢
 go_enter Tryd.func20, Tryd.ntmps20
 go_wp2_with (first | (go_at_call 18; (with_reducible refine (shelf_Shelf_there.calls base g B D _ vn ts a b _ HS.out).mono ?_); rintro e w1 ⟨rfl, rfl⟩) | (at_lookup; refine wpList_lookup_own_ok_int _ rfl _ _ 59 rfl 9 3 .i64 shelf_Shelf_there.law Tryd.underlying59 Tryd.underlying3 (shelf_Shelf_there.zero_ _) B ts.length D rfl hown _ _ rfl hKEY ?_; intro c hat hwc; obtain rfl : c = (i : Int) := by (rw [h2] at hat; simpa using hat.symm)))
 exact bodyPost_ret (v := .tuple #[.string x, .bool true]) (by simp [results, Tryd.results20, go_sem]) rfl ⟨rfl, rfl⟩
theorem shelf_Shelf_Get.all_ (base g : Nat) (F : Nat → Prop) (s : M.SS) (name : ByteArray) (w : World) (hS : M.Sh Tryd.prog base w g F s) (hz : name.size ≤ 9223372036854775807) :
    Calls Tryd.prog 20 #[.pointer (some ⟨g, 0, none⟩), .string name] w fun e w' => e = .returned (.tuple #[.string (s.get name).1, .bool (s.get name).2]) ∧ w = w' := by
 obtain ⟨B, D, vt, vn, hs, hF, hl⟩ := hS
 unfold M.SS.get
 cases hi : M.idx (s.ts.map M.shaSum) name.data.toList with
 | none => exact shelf_Shelf_Get.none_ base g B D vt vn s.ts s.a s.b name w hs hz hi
 | some i => exact shelf_Shelf_Get.some_ base g B D vt vn s.ts s.a s.b name i w hs hz hi
theorem shelf_Shelf_Get.any (base g : Nat) (F : Nat → Prop) (s : M.SS) (name : ByteArray) (w : World) (hS : M.Sh Tryd.prog base w g F s) (hz : name.size ≤ 1000000000000) :
    Calls Tryd.prog 20 #[.pointer (some ⟨g, 0, none⟩), .string name] w fun e w' => e = .returned (.tuple #[.string (s.get name).1, .bool (s.get name).2]) ∧ w = w' := shelf_Shelf_Get.all_ base g F s name w hS (by omega)
end Go.Proofs.YtkjbhgolillidaaDoor.EMarkNames
