-- Laid by this session's own program (wip/tools/fold.py): this session's texts, cut to what the claim names and put together; Lean checks it.
import Derived.Test.YtkjbhgolillidaaDoorVMarkNames1
import Derived.Test.YtkjbhgolillidaaDoorVMarkNames13
import Derived.Test.YtkjbhgolillidaaDoorVMarkNames14
import Derived.Test.YtkjbhgolillidaaDoorVMarkNames15
import Derived.Test.YtkjbhgolillidaaDoorXMarkNames1
namespace Go.Proofs.YtkjbhgolillidaaDoor.EMarkNames
open Go.RowKit Go.Proofs.YtkjbhgolillidaaDoorW.PrintWords Go.Proofs.YtkjbhgolillidaaDoorW.PrintLast Go.Proofs.YtkjbhgolillidaaDoorW.PrintMore
attribute [local go_sem] M.run_leq M.run_gtr M.run_geq max2_int min2_int max_two min_two max_three min_three max_four min_four
set_option linter.unusedVariables false
set_option linter.unusedSimpArgs false
def pleachref39_Names.l0 : Nat → List ByteArray → List (S43) → Int → Int → Int → List (S43) → List Int → Option (List ByteArray × Bool)
  | 0, _, _, _, _, _, _, _ => none
  | k + 1, x6, x18, x19, x20, zaa, zab, zac => if x20 < x19 then (if 0 ≤ x20 then (if x20 < (x18.length : Int) then (if zaa > 0 then ((some (([(rd_T43 x18 x20).f1] : List ByteArray) : List ByteArray)).bind fun y453 => (if x6.length + y453.length < 8796093022208 then (pleachref39_Names.l0 k (x6 ++ y453) x18 x19 (wrap64 (x20 + 1)) zaa zab zac) else (none))) else (pleachref39_Names.l0 k x6 x18 x19 (wrap64 (x20 + 1)) zaa zab zac)) else (none)) else (none)) else (some (x6, true))
def pleachref39_Names.f (k : Nat) (a0 : ByteArray) : Option (List ByteArray × Bool) := (pleachref19_Take.f a0).bind fun bt442 => (if bt442.2.2.2 = true then (pleachref39_Names.l0 k ([] : List ByteArray) bt442.2.1 (bt442.2.1.length : Int) 0 bt442.1 bt442.2.1 bt442.2.2.1) else ((pleachref32_Take.f a0).bind fun bt459 => (if bt459.2.2.2.2 = true then (some ((([bt459.1, bt459.2.1, bt459.2.2.1, bt459.2.2.2.1] : List ByteArray)), true)) else ((pleachref35_Take.f a0).bind fun bt468 => (if bt468.2.2.2.2 = true then ((some (([] : List ByteArray) : List ByteArray)).bind fun y476 => (if y476.length + bt468.2.1.length < 8796093022208 then ((some (y476 ++ bt468.2.1 : List ByteArray)).bind fun y479 => ((some (([bt468.2.2.1] : List ByteArray) : List ByteArray)).bind fun y482 => (if y479.length + y482.length < 8796093022208 then (some ((y479 ++ y482), true)) else (none)))) else (none))) else (some (([] : List ByteArray), false)))))))
theorem pleachref39_Names.mono_l : ∀ k, (∀ y0 y1 y2 y3 y4 y5 y6, LeO (pleachref39_Names.l0 k y0 y1 y2 y3 y4 y5 y6) (pleachref39_Names.l0 (k + 1) y0 y1 y2 y3 y4 y5 y6))
  | 0 => fun _ _ _ _ _ _ _ r h => by simp [pleachref39_Names.l0] at h
  | k + 1 => by
    have ih0 := pleachref39_Names.mono_l k
    · intro y0 y1 y2 y3 y4 y5 y6
      unfold pleachref39_Names.l0
      repeat' first
      | (with_reducible exact ih0 _ _ _ _ _ _ _)
      | (with_reducible exact LeO.refl _)
      | (with_reducible exact LeO.none _)
      | (with_reducible refine LeO.ite ?_ ?_)
      | (with_reducible refine LeO.bind ?_ (fun _ => ?_))
      | exact ih0 _ _ _ _ _ _ _
      | exact LeO.none _
      | refine LeO.ite ?_ ?_
      | refine LeO.bind ?_ (fun _ => ?_)
theorem pleachref39_Names.mono : ∀ a0 k, LeO (pleachref39_Names.f k a0) (pleachref39_Names.f (k + 1) a0) := by
  intro a0 k
  have ih0 := pleachref39_Names.mono_l k
  unfold pleachref39_Names.f
  repeat' first
      | (with_reducible exact ih0 _ _ _ _ _ _ _)
      | (with_reducible exact LeO.refl _)
      | (with_reducible exact LeO.none _)
      | (with_reducible refine LeO.ite ?_ ?_)
      | (with_reducible refine LeO.bind ?_ (fun _ => ?_))
      | exact ih0 _ _ _ _ _ _ _
      | exact LeO.none _
      | refine LeO.ite ?_ ?_
      | refine LeO.bind ?_ (fun _ => ?_)
def pleachref39_Names.T16 : Bool × List (List Nat × List Nat) := (true, [([], []), ([], []), ([1], [1]), ([0, 2], [0, 2]), ([], []), ([4], [4]), ([5], [5]), ([3, 6, 3], [3, 6]), ([7, 7, 0, 1, 2, 3, 4, 5, 6, 7], [7]), ([8, 0, 1, 2, 3, 4, 5, 6, 7, 8], [])])
def pleachref39_Names.B16 : List Nat := [0, 0, 2, 7, 0, 16, 48, 127, 255, 511]
theorem pleachref39_Names.tab16 : rtab .any (opsOf Tryd.f6 16) = pleachref39_Names.T16 := by kernel_rfl
theorem pleachref39_Names.bits16 : waitsOk pleachref39_Names.T16.2 pleachref39_Names.B16 = true := by kernel_rfl
set_option maxHeartbeats 8000000 in
set_option maxRecDepth 100000 in
theorem pleachref39_Names.calls (k : Nat) (a0 : ByteArray) (r1 : List ByteArray) (r2 : Bool) (w : World) (h : pleachref39_Names.f k a0 = some (r1, r2)) :
    Calls Tryd.prog 6 #[.string a0] w fun e w' => ∃ v0_ : Value, e = .returned (.tuple #[v0_, .bool r2]) ∧ Kd.R Kd.string 9 w' w.heap.size (fun _ => True) v0_ r1 ∧ Below w.heap.size w w' := by
 have hu39 := Tryd.underlying39
 have hu43 := Tryd.underlying43
 have hu45 := Tryd.underlying45
 have hu49 := Tryd.underlying49
 have HB := Aside0.mk (Below.refl w.heap.size w)
 have H : ((pleachref19_Take.f a0).bind fun bt442 => (if bt442.2.2.2 = true then (pleachref39_Names.l0 k ([] : List ByteArray) bt442.2.1 (bt442.2.1.length : Int) 0 bt442.1 bt442.2.1 bt442.2.2.1) else ((pleachref32_Take.f a0).bind fun bt459 => (if bt459.2.2.2.2 = true then (some ((([bt459.1, bt459.2.1, bt459.2.2.1, bt459.2.2.2.1] : List ByteArray)), true)) else ((pleachref35_Take.f a0).bind fun bt468 => (if bt468.2.2.2.2 = true then ((some (([] : List ByteArray) : List ByteArray)).bind fun y476 => (if y476.length + bt468.2.1.length < 8796093022208 then ((some (y476 ++ bt468.2.1 : List ByteArray)).bind fun y479 => ((some (([bt468.2.2.1] : List ByteArray) : List ByteArray)).bind fun y482 => (if y479.length + y482.length < 8796093022208 then (some ((y479 ++ y482), true)) else (none)))) else (none))) else (some (([] : List ByteArray), false)))))))) = some (r1, r2) := h
 clear h
 replace H := Option.bind_eq_some_iff.mp H
 obtain ⟨⟨t442, t443, t446, t449⟩, A20, H⟩ := H
 replace H : (if t449 = true then (pleachref39_Names.l0 k ([] : List ByteArray) t443 (t443.length : Int) 0 t442 t443 t446) else ((pleachref32_Take.f a0).bind fun bt459 => (if bt459.2.2.2.2 = true then (some ((([bt459.1, bt459.2.1, bt459.2.2.1, bt459.2.2.2.1] : List ByteArray)), true)) else ((pleachref35_Take.f a0).bind fun bt468 => (if bt468.2.2.2.2 = true then ((some (([] : List ByteArray) : List ByteArray)).bind fun y476 => (if y476.length + bt468.2.1.length < 8796093022208 then ((some (y476 ++ bt468.2.1 : List ByteArray)).bind fun y479 => ((some (([bt468.2.2.1] : List ByteArray) : List ByteArray)).bind fun y482 => (if y479.length + y482.length < 8796093022208 then (some ((y479 ++ y482), true)) else (none)))) else (none))) else (some (([] : List ByteArray), false))))))) = some (r1, r2) := H
 have A2 := Aside0.mk A20
 clear A20
 by_cases c3 : t449 = true
 ·subst c3
  have H1 : (pleachref39_Names.l0 k ([] : List ByteArray) t443 (t443.length : Int) 0 t442 t443 t446) = some (r1, r2) := by rw [if_pos rfl] at H; exact H
  clear H
  have H := H1
  clear H1
  have H' := Aside0.mk H
  clear H
  go_enter Tryd.func6, Tryd.ntmps6
  go_wp2_with (first | ((with_reducible refine gate_callee (f := 15) rfl ?_); refine M.goes (some 13) Tryd.func15 #[.string a0] rfl ?_; (with_reducible refine (pleachref19_Take.calls a0 t442 t443 t446 true _ A2.out).mono ?_); rintro e w4 ⟨v444, v447, rfl, ho0, ho1, hb⟩; refine ⟨_, rfl, ?_⟩; have HO445 := Aside0.mk (Kd.R_lower ho0 (below_size (M.up HB))); have HO448 := Aside0.mk (Kd.R_lower ho1 (below_size (M.up HB))); replace HB := M.upS HB hb; (try clear hb); (try clear ho0); (try clear ho1)) | ((with_reducible refine gate_dst (N := 4) rfl ?_); refine M.bx 4 39 (#[.int .i64 0, .slice none 0 0, .slice none 0 0]) ?_; intro zad hg w5 hbox hb; replace HO445 := M.roB HO445 hb; replace HO448 := M.roB HO448 hb; have zae := Aside0.mk (hbox); have zaf := M.upG HB hg; have zag := M.upG HB hg; replace HB := M.upS HB hb; clear hb hbox hg; obtain ⟨zah, zai, zaj⟩ := M.bc3 (w := w5) (a := .int .i64 0) (b := .slice none 0 0) (c := .slice none 0 0) zae.out; obtain ⟨zak, zal, zam⟩ := M.bf3 zae; obtain ⟨Ao7, co7, eo7⟩ := Kd.R_slice HO445.out; subst eo7; obtain ⟨Ao8, co8, eo8⟩ := Kd.R_slice HO448.out; subst eo8))
  go_loopg [6, 20] k (fun kq v6 v20 w' => ∃ (x6_1 : List ByteArray) (x20_1 : Int), v20 = .int .i64 x20_1 ∧ Aside0 (pleachref39_Names.l0 kq x6_1 t443 (t443.length : Int) x20_1 t442 t443 t446 = some (r1, r2)) ∧ Aside0 (kq ≤ k) ∧ Aside0 (Kd.R Kd.string 9 w' w.heap.size (fun _ => True) v6 x6_1) ∧ Aside0 (Kd.R k43 43 w' w.heap.size (fun _ => True) (.slice Ao7 t443.length co7) t443) ∧ Aside0 (Kd.R k43 43 w' w.heap.size (fun _ => True) (.slice Ao7 t443.length co7) t443) ∧ Aside0 (Kd.R (Kd.int .i64) 3 w' w.heap.size (fun _ => True) (.slice Ao8 t446.length co8) t446) ∧ Aside0 (w'.heap[zad]? = some (.cells #[.int .i64 t442, (.slice Ao7 t443.length co7), (.slice Ao8 t446.length co8)] 39 (0, 0))) ∧ Aside0 (Below w.heap.size w w'))
  case atStart => exact ⟨(([] : List ByteArray)), (0), M.eqv, H', ⟨Nat.le_refl _⟩, ⟨M.nl⟩, ⟨by (with_reducible repeat (first | apply Kd.R_alloc | apply Kd.R_drewN | apply Kd.R_drew)); exact Kd.R_mono (Kd.R_far (p := ⟨zad, 2, none⟩) (Kd.R_far (p := ⟨zad, 1, none⟩) (Kd.R_far (p := ⟨zad, 0, none⟩) (Kd.R_types HO445.out zae.out (by decide)) (fun _ hk => hk.2) (.int .i64 t442)) (fun _ hk => hk.2) (.slice Ao7 t443.length co7)) (fun _ hk => hk.2) (.slice Ao8 t446.length co8)) (fun _ hk => trivial)⟩, ⟨by (with_reducible repeat (first | apply Kd.R_alloc | apply Kd.R_drewN | apply Kd.R_drew)); exact Kd.R_mono (Kd.R_far (p := ⟨zad, 2, none⟩) (Kd.R_far (p := ⟨zad, 1, none⟩) (Kd.R_far (p := ⟨zad, 0, none⟩) (Kd.R_types HO445.out zae.out (by decide)) (fun _ hk => hk.2) (.int .i64 t442)) (fun _ hk => hk.2) (.slice Ao7 t443.length co7)) (fun _ hk => hk.2) (.slice Ao8 t446.length co8)) (fun _ hk => trivial)⟩, ⟨by (with_reducible repeat (first | apply Kd.R_alloc | apply Kd.R_drewN | apply Kd.R_drew)); exact Kd.R_mono (Kd.R_far (p := ⟨zad, 2, none⟩) (Kd.R_far (p := ⟨zad, 1, none⟩) (Kd.R_far (p := ⟨zad, 0, none⟩) (Kd.R_types HO448.out zae.out (by decide)) (fun _ hk => hk.2) (.int .i64 t442)) (fun _ hk => hk.2) (.slice Ao7 t443.length co7)) (fun _ hk => hk.2) (.slice Ao8 t446.length co8)) (fun _ hk => trivial)⟩, ⟨by refine M.fp (cs := #[.int .i64 t442, .slice Ao7 t443.length co7, .slice none 0 0]) ?_ 2; refine M.fp (cs := #[.int .i64 t442, .slice none 0 0, .slice none 0 0]) ?_ 1; refine M.fp (cs := #[.int .i64 0, .slice none 0 0, .slice none 0 0]) ?_ 0; exact M.bk zae⟩, ⟨M.up HB⟩⟩
  case round =>
   clear H'
   (try clear c1); (try clear p2); (try clear c3); (try clear c6); (try clear zah); (try clear zai); (try clear zaj); (try clear zak); (try clear zal); (try clear zam)
   obtain ⟨x6_1, x20_1, rfl, HA, HK1, zan, zao, zap, zaq, zae, HB⟩ := hrel
   cases gk with
   | zero => exact absurd HA.out (by simp [pleachref39_Names.l0])
   | succ k1 =>
    have H := HA.out
    clear HA
    simp only [pleachref39_Names.l0] at H
    by_cases c9 : x20_1 < (t443.length : Int)
    ·rw [if_pos c9] at H
     have c9b0 := decide_eq_true c9
     clear c9
     by_cases c10 : 0 ≤ x20_1
     ·rw [if_pos c10] at H
      have c10b0 := decide_eq_true c10
      clear c10
      by_cases c11 : x20_1 < (t443.length : Int)
      ·rw [if_pos c11] at H
       have c11b0 := decide_eq_true c11
       clear c11
       by_cases c12 : t442 > 0
       ·rw [if_pos c12] at H
        have c12b0 := decide_eq_true c12
        clear c12
        obtain ⟨y453, hy453⟩ : ∃ y_ : List ByteArray, y_ = (([(rd_T43 t443 x20_1).f1] : List ByteArray)) := ⟨_, rfl⟩
        replace H : (if x6_1.length + y453.length < 8796093022208 then (pleachref39_Names.l0 k1 (x6_1 ++ y453) t443 (t443.length : Int) (wrap64 (x20_1 + 1)) t442 t443 t446) else (none)) = some (r1, r2) := by first | (rw [hy453]; with_reducible exact H) | (have H2_ := (Option.bind_some _ _).symm.trans H; rw [hy453]; with_reducible exact H2_) | (have H2_ := (Option.bind_some _ _).symm.trans H; with_reducible exact H2_) | with_reducible exact H | (rw [hy453]; exact H) | exact H
        have Ny453 := Aside0.mk hy453
        clear hy453
        by_cases c13 : x6_1.length + y453.length < 8796093022208
        ·rw [if_pos c13] at H
         have LMc13 := Aside0.mk c13
         clear c13
         obtain ⟨y456, hy456⟩ : ∃ y_ : List ByteArray, y_ = (x6_1 ++ y453) := ⟨_, rfl⟩
         replace H : (pleachref39_Names.l0 k1 y456 t443 (t443.length : Int) (wrap64 (x20_1 + 1)) t442 t443 t446) = some (r1, r2) := by first | (rw [hy456]; with_reducible exact H) | (have H2_ := (Option.bind_some _ _).symm.trans H; rw [hy456]; with_reducible exact H2_) | (have H2_ := (Option.bind_some _ _).symm.trans H; with_reducible exact H2_) | with_reducible exact H | (rw [hy456]; exact H) | exact H
         have Ny456 := Aside0.mk hy456
         clear hy456
         have H' := Aside0.mk H
         clear H
         have p451 : 0 ≤ (x20_1 : Int) := M.dt
         have q451 : x20_1 < (t443.length : Int) := M.dt
         obtain ⟨ad451, e451, hx451_0, hx451_1⟩ := at_T43 (Kd.R_reads' zao.out).2.2 x20_1 p451 q451
         cases e451
         replace p451 := eq_true p451
         replace q451 := eq_true q451
         go_wp2_with (first | ((with_reducible refine gate_dst (N := 8) rfl ?_); refine M.bx 8 43 (#[.string (⟨#[]⟩ : ByteArray), .string (⟨#[]⟩ : ByteArray)]) ?_; intro zar hg w14 hbox hb; replace zan := M.roB zan hb; replace zao := Aside0.mk (Kd.R_below (Kd.R_elderB (M.ro zao) zar (Nat.le_of_eq hg.symm)) hb); replace zap := Aside0.mk (Kd.R_below (Kd.R_elderB (M.ro zap) zar (Nat.le_of_eq hg.symm)) hb); replace zaq := M.roB zaq hb; have zas := Aside0.mk (hbox); have zat := M.upG HB hg; have zau := M.upG HB hg; replace HB := M.upS HB hb; have zav := M.bkL zae hg; have zaw := M.bkG zae hg; replace zae := M.bkB zae hb; clear hb hbox hg; have zax := zaw.out; have zay := zav.out; obtain ⟨zaz, zaA⟩ := M.bc2 (w := w14) (a := .string (⟨#[]⟩ : ByteArray)) (b := .string (⟨#[]⟩ : ByteArray)) zas.out; obtain ⟨zaB, zaC⟩ := M.bf2 zas; obtain ⟨zaD, zaE, zaF⟩ := M.bc3 (w := w14) (a := .int .i64 t442) (b := .slice (some ad451) t443.length co7) (c := .slice Ao8 t446.length co8) zae.out; obtain ⟨zaG, zaH, zaI⟩ := M.bf3 zae) | ((with_reducible refine gate_dst (N := 30) rfl ?_); refine Kd.R_lit Kd.string _ 9 ?hg (N := 30) ?hd (xs := ([(rd_T43 t443 x20_1).f1] : List ByteArray)) (inner := [.string ((rd_T43 t443 x20_1).f1)]) (ok := fun _ => True) (okp := fun _ => True) ?hr ?hp (fun _ hk => hk) trivial (Below.refl _ _) (Nat.le_refl _) (by simp) ?_; (case hd => rfl); (case hg => rfl); (case hr => first | (go_simp; done) | (go_simp; rfl)); (case hp => exact (Reps.one (show Kd.M Kd.string _ _ _ ((rd_T43 t443 x20_1).f1) [.string ((rd_T43 t443 x20_1).f1)] from rfl) (Reps.none _ _))); intro v454 w18 ho19 hb hg_ hnew_; clear hg_ hnew_; (first | rw [← Ny453.out] at ho19 | (simp only [Int.reduceToNat] at ho19; rw [← Ny453.out] at ho19)); replace zao := Aside0.mk (Kd.R_below (by (with_reducible repeat (first | apply Kd.R_alloc | apply Kd.R_drewN | apply Kd.R_drew)); exact (Kd.R_mono (Kd.R_far (p := ⟨zar, 1, none⟩) (Kd.R_far (p := ⟨zar, 0, none⟩) (Kd.R_mono zao.out (fun k_ hk => (⟨hk, hk.2⟩ : _ ∧ k_ ≠ zar))) (fun _ hk => hk.2) (.string ((rd_T43 t443 x20_1).f0))) (fun _ hk => hk.2) (.string ((rd_T43 t443 x20_1).f1))) (fun _ h_ => h_.1))) hb); replace zap := Aside0.mk (Kd.R_below (by (with_reducible repeat (first | apply Kd.R_alloc | apply Kd.R_drewN | apply Kd.R_drew)); exact (Kd.R_mono (Kd.R_far (p := ⟨zar, 1, none⟩) (Kd.R_far (p := ⟨zar, 0, none⟩) (Kd.R_mono zap.out (fun k_ hk => (⟨hk, hk.2⟩ : _ ∧ k_ ≠ zar))) (fun _ hk => hk.2) (.string ((rd_T43 t443 x20_1).f0))) (fun _ hk => hk.2) (.string ((rd_T43 t443 x20_1).f1))) (fun _ h_ => h_.1))) hb); replace zaq := Aside0.mk (Kd.R_below (by (with_reducible repeat (first | apply Kd.R_alloc | apply Kd.R_drewN | apply Kd.R_drew)); exact (Kd.R_mono (Kd.R_far (p := ⟨zar, 1, none⟩) (Kd.R_far (p := ⟨zar, 0, none⟩) (Kd.R_types zaq.out zas.out (by decide)) (fun _ hk => hk.2) (.string ((rd_T43 t443 x20_1).f0))) (fun _ hk => hk.2) (.string ((rd_T43 t443 x20_1).f1))) (fun _ h_ => h_.1))) hb); have HO455 := Aside0.mk (Kd.R_lower (Kd.R_new' ho19 (Kd.R_lt (by (with_reducible repeat (first | apply Kd.R_alloc | apply Kd.R_drewN | apply Kd.R_drew)); exact (Kd.R_mono (Kd.R_far (p := ⟨zar, 1, none⟩) (Kd.R_far (p := ⟨zar, 0, none⟩) (Kd.R_types zan.out zas.out (by decide)) (fun _ hk => hk.2) (.string ((rd_T43 t443 x20_1).f0))) (fun _ hk => hk.2) (.string ((rd_T43 t443 x20_1).f1))) (fun _ h_ => h_.1))))) (below_size (M.up HB))); replace zan := Aside0.mk (Kd.R_elder' (by (with_reducible repeat (first | apply Kd.R_alloc | apply Kd.R_drewN | apply Kd.R_drew)); exact (Kd.R_mono (Kd.R_far (p := ⟨zar, 1, none⟩) (Kd.R_far (p := ⟨zar, 0, none⟩) (Kd.R_types zan.out zas.out (by decide)) (fun _ hk => hk.2) (.string ((rd_T43 t443 x20_1).f0))) (fun _ hk => hk.2) (.string ((rd_T43 t443 x20_1).f1))) (fun _ h_ => h_.1))) (Kd.R_base ho19) hb); replace zae := Aside0.mk (blk_below (g := zad) (o := .cells #[.int .i64 t442, .slice (some ad451) t443.length co7, .slice Ao8 t446.length co8] 39 (0, 0)) (by refine M.fr ?_ zav; refine M.fr ?_ zav; exact M.bk zae) hb); replace zas := Aside0.mk (blk_below (g := zar) (o := .cells #[.string ((rd_T43 t443 x20_1).f0), .string ((rd_T43 t443 x20_1).f1)] 43 (0, 0)) (by refine M.fp (cs := #[.string ((rd_T43 t443 x20_1).f0), .string (⟨#[]⟩ : ByteArray)]) ?_ 1; refine M.fp (cs := #[.string (⟨#[]⟩ : ByteArray), .string (⟨#[]⟩ : ByteArray)]) ?_ 0; exact M.bk zas) hb); replace HB := M.upS HB hb; clear hb ho19; obtain ⟨Ao21, co21, eo21⟩ := Kd.R_slice HO455.out; subst eo21) | ((with_reducible refine gate_builtin (b := .append) (xs := #[.tmp 27, .tmp 30]) rfl ?_); at_builtin; refine Kd.R_append_rows Kd.string (w0 := w) w.heap.size rfl (.tmp 27) (.tmp 30) 23 9 (.string ⟨#[]⟩) 16 rfl Tryd.underlying23 info9 rfl (by decide) (by omega) u6 x6_1 y453 _ _ _ (fun k_ => some k_ ≠ (.slice Ao21 y453.length co21 : Value).ownBlock) (fun _ => False) rfl rfl ?aO ?aR (fun _ _ h => h) (fun _ h => h.elim) ?aF ?aB ?aS ?aL ?_; (case aR => repeat (first | exact (Kd.R_reads' HO455.out).2.2 | (with_reducible refine Kd.C_alloc ?_ _) | (with_reducible refine Kd.C_drewN ?_ _) | (with_reducible refine Kd.C_drew ?_))); (case aB => exact (M.up HB)); (case aF => exact (fun k_ hk => Kd.fresh' (Kd.R_lt (M.ro HO455)) k_ hk)); (case aO => exact (by (with_reducible repeat (first | apply Kd.R_alloc | apply Kd.R_drewN | apply Kd.R_drew)); exact Kd.R_mono zan.out (fun _ hk => hk.2))); (case aS => exact (below_size (M.up HB))); (case aL => have := LMc13.out; omega); intro v457 w20 ho hb hg hat; rw [← Ny456.out] at ho; replace zao := Aside0.mk (Kd.R_over' (M.ro zao) (Kd.R_typed (M.ro zan)) (by decide) hg); replace zap := Aside0.mk (Kd.R_over' (M.ro zap) (Kd.R_typed (M.ro zan)) (by decide) hg); replace zaq := Aside0.mk (Kd.R_over' (M.ro zaq) (Kd.R_typed (M.ro zan)) (by decide) hg); replace zae := Aside0.mk (blk_grown (g := zad) (o := .cells #[.int .i64 t442, .slice (some ad451) t443.length co7, .slice Ao8 t446.length co8] 39 (0, 0)) (M.bk zae) hg (Kd.R_ne zan.out zae.out (by decide))); replace zas := Aside0.mk (blk_grown (g := zar) (o := .cells #[.string ((rd_T43 t443 x20_1).f0), .string ((rd_T43 t443 x20_1).f1)] 43 (0, 0)) (M.bk zas) hg (Kd.R_ne zan.out zas.out (by decide))); replace HO455 := Aside0.mk (Kd.R_after (ok := (fun _ => True)) (M.ro HO455) hg hat); replace HB := Aside0.mk (hb); have HO458 := Aside0.mk (ho); clear zan; clear ho hb hg hat))
         go_roundg k1
         case measure => have := HK1.out; omega
         case rel => exact ⟨(y456), (wrap64 (x20_1 + 1)), M.eqv, H', ⟨by have := HK1.out; omega⟩, ⟨by (with_reducible repeat (first | apply Kd.R_alloc | apply Kd.R_drewN | apply Kd.R_drew)); exact Kd.R_mono HO458.out (fun _ hk => trivial)⟩, ⟨by (with_reducible repeat (first | apply Kd.R_alloc | apply Kd.R_drewN | apply Kd.R_drew)); exact Kd.R_mono zao.out (fun _ hk => trivial)⟩, ⟨by (with_reducible repeat (first | apply Kd.R_alloc | apply Kd.R_drewN | apply Kd.R_drew)); exact Kd.R_mono zap.out (fun _ hk => trivial)⟩, ⟨by (with_reducible repeat (first | apply Kd.R_alloc | apply Kd.R_drewN | apply Kd.R_drew)); exact zaq.out⟩, ⟨M.bk zae⟩, ⟨M.up HB⟩⟩
        ·exact M.nf c13 H
       ·rw [if_neg c12] at H
        have c12b0 := decide_eq_false c12
        clear c12
        have H' := Aside0.mk H
        clear H
        have p451 : 0 ≤ (x20_1 : Int) := M.dt
        have q451 : x20_1 < (t443.length : Int) := M.dt
        obtain ⟨ad451, e451, hx451_0, hx451_1⟩ := at_T43 (Kd.R_reads' zao.out).2.2 x20_1 p451 q451
        cases e451
        replace p451 := eq_true p451
        replace q451 := eq_true q451
        go_wp2_with (first | ((with_reducible refine gate_dst (N := 8) rfl ?_); refine M.bx 8 43 (#[.string (⟨#[]⟩ : ByteArray), .string (⟨#[]⟩ : ByteArray)]) ?_; intro zar hg w22 hbox hb; replace zan := M.roB zan hb; replace zao := Aside0.mk (Kd.R_below (Kd.R_elderB (M.ro zao) zar (Nat.le_of_eq hg.symm)) hb); replace zap := Aside0.mk (Kd.R_below (Kd.R_elderB (M.ro zap) zar (Nat.le_of_eq hg.symm)) hb); replace zaq := M.roB zaq hb; have zas := Aside0.mk (hbox); have zat := M.upG HB hg; have zau := M.upG HB hg; replace HB := M.upS HB hb; have zav := M.bkL zae hg; have zaw := M.bkG zae hg; replace zae := M.bkB zae hb; clear hb hbox hg; have zaJ := zaw.out; have zaK := zav.out; obtain ⟨zaL, zaM⟩ := M.bc2 (w := w22) (a := .string (⟨#[]⟩ : ByteArray)) (b := .string (⟨#[]⟩ : ByteArray)) zas.out; obtain ⟨zaN, zaO⟩ := M.bf2 zas; obtain ⟨zaP, zaQ, zaR⟩ := M.bc3 (w := w22) (a := .int .i64 t442) (b := .slice (some ad451) t443.length co7) (c := .slice Ao8 t446.length co8) zae.out; obtain ⟨zaS, zaT, zaU⟩ := M.bf3 zae))
        go_roundg k1
        case measure => have := HK1.out; omega
        case rel => exact ⟨(x6_1), (wrap64 (x20_1 + 1)), M.eqv, H', ⟨by have := HK1.out; omega⟩, ⟨by (with_reducible repeat (first | apply Kd.R_alloc | apply Kd.R_drewN | apply Kd.R_drew)); exact Kd.R_mono (Kd.R_far (p := ⟨zar, 1, none⟩) (Kd.R_far (p := ⟨zar, 0, none⟩) (Kd.R_types zan.out zas.out (by decide)) (fun _ hk => hk.2) (.string ((rd_T43 t443 x20_1).f0))) (fun _ hk => hk.2) (.string ((rd_T43 t443 x20_1).f1))) (fun _ hk => trivial)⟩, ⟨by (with_reducible repeat (first | apply Kd.R_alloc | apply Kd.R_drewN | apply Kd.R_drew)); exact Kd.R_mono (Kd.R_far (p := ⟨zar, 1, none⟩) (Kd.R_far (p := ⟨zar, 0, none⟩) (Kd.R_mono zao.out (fun k_ hk => (⟨hk, hk.2⟩ : _ ∧ k_ ≠ zar))) (fun _ hk => hk.2) (.string ((rd_T43 t443 x20_1).f0))) (fun _ hk => hk.2) (.string ((rd_T43 t443 x20_1).f1))) (fun _ hk => trivial)⟩, ⟨by (with_reducible repeat (first | apply Kd.R_alloc | apply Kd.R_drewN | apply Kd.R_drew)); exact Kd.R_mono (Kd.R_far (p := ⟨zar, 1, none⟩) (Kd.R_far (p := ⟨zar, 0, none⟩) (Kd.R_mono zap.out (fun k_ hk => (⟨hk, hk.2⟩ : _ ∧ k_ ≠ zar))) (fun _ hk => hk.2) (.string ((rd_T43 t443 x20_1).f0))) (fun _ hk => hk.2) (.string ((rd_T43 t443 x20_1).f1))) (fun _ hk => trivial)⟩, ⟨by (with_reducible repeat (first | apply Kd.R_alloc | apply Kd.R_drewN | apply Kd.R_drew)); exact Kd.R_mono (Kd.R_far (p := ⟨zar, 1, none⟩) (Kd.R_far (p := ⟨zar, 0, none⟩) (Kd.R_types zaq.out zas.out (by decide)) (fun _ hk => hk.2) (.string ((rd_T43 t443 x20_1).f0))) (fun _ hk => hk.2) (.string ((rd_T43 t443 x20_1).f1))) (fun _ hk => trivial)⟩, ⟨by refine M.fr ?_ zav; refine M.fr ?_ zav; exact M.bk zae⟩, ⟨M.up HB⟩⟩
      ·exact M.nf c11 H
     ·exact M.nf c10 H
    ·rw [if_neg c9] at H
     have c9b0 := decide_eq_false c9
     clear c9
     simp only [Option.some.injEq, Prod.mk.injEq] at H
     obtain ⟨rfl, rfl⟩ := H
     go_wp2
     go_ret2
     exact ⟨_, M.eqe, by (with_reducible repeat (first | apply Kd.R_alloc | apply Kd.R_drewN | apply Kd.R_drew)); exact zan.out, M.up HB⟩
 ·replace c3 := Bool.eq_false_iff.mpr c3
  subst c3
  have H1 : ((pleachref32_Take.f a0).bind fun bt459 => (if bt459.2.2.2.2 = true then (some ((([bt459.1, bt459.2.1, bt459.2.2.1, bt459.2.2.2.1] : List ByteArray)), true)) else ((pleachref35_Take.f a0).bind fun bt468 => (if bt468.2.2.2.2 = true then ((some (([] : List ByteArray) : List ByteArray)).bind fun y476 => (if y476.length + bt468.2.1.length < 8796093022208 then ((some (y476 ++ bt468.2.1 : List ByteArray)).bind fun y479 => ((some (([bt468.2.2.1] : List ByteArray) : List ByteArray)).bind fun y482 => (if y479.length + y482.length < 8796093022208 then (some ((y479 ++ y482), true)) else (none)))) else (none))) else (some (([] : List ByteArray), false)))))) = some (r1, r2) := by rw [if_neg (show ¬ (false = true) by decide)] at H; exact H
  clear H
  have H := H1
  clear H1
  replace H := Option.bind_eq_some_iff.mp H
  obtain ⟨⟨t459, t460, t461, t462, t463⟩, A260, H⟩ := H
  replace H : (if t463 = true then (some ((([t459, t460, t461, t462] : List ByteArray)), true)) else ((pleachref35_Take.f a0).bind fun bt468 => (if bt468.2.2.2.2 = true then ((some (([] : List ByteArray) : List ByteArray)).bind fun y476 => (if y476.length + bt468.2.1.length < 8796093022208 then ((some (y476 ++ bt468.2.1 : List ByteArray)).bind fun y479 => ((some (([bt468.2.2.1] : List ByteArray) : List ByteArray)).bind fun y482 => (if y479.length + y482.length < 8796093022208 then (some ((y479 ++ y482), true)) else (none)))) else (none))) else (some (([] : List ByteArray), false))))) = some (r1, r2) := H
  have A26 := Aside0.mk A260
  clear A260
  by_cases c27 : t463 = true
  ·subst c27
   have H1 : (some ((([t459, t460, t461, t462] : List ByteArray)), true)) = some (r1, r2) := by rw [if_pos rfl] at H; exact H
   clear H
   have H := H1
   clear H1
   obtain ⟨y465, hy465⟩ : ∃ y_ : List ByteArray, y_ = (([t459, t460, t461, t462] : List ByteArray)) := ⟨_, rfl⟩
   replace H : (some (y465, true)) = some (r1, r2) := by first | (rw [hy465]; with_reducible exact H) | (have H2_ := (Option.bind_some _ _).symm.trans H; rw [hy465]; with_reducible exact H2_) | (have H2_ := (Option.bind_some _ _).symm.trans H; with_reducible exact H2_) | with_reducible exact H | (rw [hy465]; exact H) | exact H
   have Ny465 := Aside0.mk hy465
   clear hy465
   simp only [Option.some.injEq, Prod.mk.injEq] at H
   obtain ⟨rfl, rfl⟩ := H
   go_enter Tryd.func6, Tryd.ntmps6
   go_wp2_with (first | ((with_reducible refine gate_callee (f := 15) rfl ?_); refine M.goes (some 13) Tryd.func15 #[.string a0] rfl ?_; (with_reducible refine (pleachref19_Take.calls a0 t442 t443 t446 false _ A2.out).mono ?_); rintro e w28 ⟨v444, v447, rfl, ho0, ho1, hb⟩; refine ⟨_, rfl, ?_⟩; have HO445 := Aside0.mk (Kd.R_lower ho0 (below_size (M.up HB))); have HO448 := Aside0.mk (Kd.R_lower ho1 (below_size (M.up HB))); replace HB := M.upS HB hb; (try clear hb); (try clear ho0); (try clear ho1)) | ((with_reducible refine gate_dst (N := 4) rfl ?_); refine M.bx 4 39 (#[.int .i64 0, .slice none 0 0, .slice none 0 0]) ?_; intro zad hg w29 hbox hb; replace HO445 := M.roB HO445 hb; replace HO448 := M.roB HO448 hb; have zae := Aside0.mk (hbox); have zaf := M.upG HB hg; have zag := M.upG HB hg; replace HB := M.upS HB hb; clear hb hbox hg; obtain ⟨zaV, zaW, zaX⟩ := M.bc3 (w := w29) (a := .int .i64 0) (b := .slice none 0 0) (c := .slice none 0 0) zae.out; obtain ⟨zaY, zaZ, za0⟩ := M.bf3 zae; obtain ⟨Ao31, co31, eo31⟩ := Kd.R_slice HO445.out; subst eo31; obtain ⟨Ao32, co32, eo32⟩ := Kd.R_slice HO448.out; subst eo32) | ((with_reducible refine gate_callee (f := 16) rfl ?_); refine M.goes (some 36) Tryd.func16 #[.string a0] rfl ?_; (with_reducible refine (pleachref32_Take.calls a0 t459 t460 t461 t462 true _ A26.out).mono ?_); rintro e w33 ⟨rfl, hb⟩; refine ⟨_, rfl, ?_⟩; replace HO445 := Aside0.mk (Kd.R_below (by (with_reducible repeat (first | apply Kd.R_alloc | apply Kd.R_drewN | apply Kd.R_drew)); exact (Kd.R_mono (Kd.R_far (p := ⟨zad, 2, none⟩) (Kd.R_far (p := ⟨zad, 1, none⟩) (Kd.R_far (p := ⟨zad, 0, none⟩) (Kd.R_types HO445.out zae.out (by decide)) (fun _ hk => hk.2) (.int .i64 t442)) (fun _ hk => hk.2) (.slice Ao31 t443.length co31)) (fun _ hk => hk.2) (.slice Ao32 t446.length co32)) (fun _ h_ => h_.1))) hb); replace HO448 := Aside0.mk (Kd.R_below (by (with_reducible repeat (first | apply Kd.R_alloc | apply Kd.R_drewN | apply Kd.R_drew)); exact (Kd.R_mono (Kd.R_far (p := ⟨zad, 2, none⟩) (Kd.R_far (p := ⟨zad, 1, none⟩) (Kd.R_far (p := ⟨zad, 0, none⟩) (Kd.R_types HO448.out zae.out (by decide)) (fun _ hk => hk.2) (.int .i64 t442)) (fun _ hk => hk.2) (.slice Ao31 t443.length co31)) (fun _ hk => hk.2) (.slice Ao32 t446.length co32)) (fun _ h_ => h_.1))) hb); replace zae := Aside0.mk (blk_below (g := zad) (o := .cells #[.int .i64 t442, .slice Ao31 t443.length co31, .slice Ao32 t446.length co32] 39 (0, 0)) (by refine M.fp (cs := #[.int .i64 t442, .slice Ao31 t443.length co31, .slice none 0 0]) ?_ 2; refine M.fp (cs := #[.int .i64 t442, .slice none 0 0, .slice none 0 0]) ?_ 1; refine M.fp (cs := #[.int .i64 0, .slice none 0 0, .slice none 0 0]) ?_ 0; exact M.bk zae) hb); replace HB := M.upS HB hb; (try clear hb)) | ((with_reducible refine gate_dst (N := 9) rfl ?_); refine M.bx 9 45 (#[.string (⟨#[]⟩ : ByteArray), .string (⟨#[]⟩ : ByteArray), .string (⟨#[]⟩ : ByteArray), .string (⟨#[]⟩ : ByteArray)]) ?_; intro za1 hg w34 hbox hb; replace HO445 := M.roB HO445 hb; replace HO448 := M.roB HO448 hb; have za2 := Aside0.mk (hbox); have za3 := M.upG HB hg; have za4 := M.upG HB hg; replace HB := M.upS HB hb; have za5 := M.bkL zae hg; have za6 := M.bkG zae hg; replace zae := M.bkB zae hb; clear hb hbox hg; have za7 := za6.out; have za8 := za5.out; have za9 : w34.cell? ⟨za1, 0, none⟩ = some (.string (⟨#[]⟩ : ByteArray)) := (blk_cell za2.out 0).trans rfl; have zba : w34.cell? ⟨za1, 1, none⟩ = some (.string (⟨#[]⟩ : ByteArray)) := (blk_cell za2.out 1).trans rfl; have zbb : w34.cell? ⟨za1, 2, none⟩ = some (.string (⟨#[]⟩ : ByteArray)) := (blk_cell za2.out 2).trans rfl; have zbc : w34.cell? ⟨za1, 3, none⟩ = some (.string (⟨#[]⟩ : ByteArray)) := (blk_cell za2.out 3).trans rfl; have zbd := blk_frozen za2.out 0; have zbe := blk_frozen za2.out 1; have zbf := blk_frozen za2.out 2; have zbg := blk_frozen za2.out 3) | ((with_reducible refine gate_dst (N := 48) rfl ?_); refine Kd.R_lit Kd.string _ 9 ?hg (N := 48) ?hd (xs := ([t459, t460, t461, t462] : List ByteArray)) (inner := [.string t459, .string t460, .string t461, .string t462]) (ok := fun _ => True) (okp := fun _ => True) ?hr ?hp (fun _ hk => hk) trivial (Below.refl _ _) (Nat.le_refl _) (by simp) ?_; (case hd => rfl); (case hg => rfl); (case hr => first | (go_simp; done) | (go_simp; rfl)); (case hp => exact (Reps.one (show Kd.M Kd.string _ _ _ t459 [.string t459] from rfl) (Reps.one (show Kd.M Kd.string _ _ _ t460 [.string t460] from rfl) (Reps.one (show Kd.M Kd.string _ _ _ t461 [.string t461] from rfl) (Reps.one (show Kd.M Kd.string _ _ _ t462 [.string t462] from rfl) (Reps.none _ _)))))); intro v466 w37 ho38 hb hg_ hnew_; clear hg_ hnew_; (first | rw [← Ny465.out] at ho38 | (simp only [Int.reduceToNat] at ho38; rw [← Ny465.out] at ho38)); replace HO445 := Aside0.mk (Kd.R_below (by (with_reducible repeat (first | apply Kd.R_alloc | apply Kd.R_drewN | apply Kd.R_drew)); exact (Kd.R_mono (Kd.R_far (p := ⟨za1, 3, none⟩) (Kd.R_far (p := ⟨za1, 2, none⟩) (Kd.R_far (p := ⟨za1, 1, none⟩) (Kd.R_far (p := ⟨za1, 0, none⟩) (Kd.R_types HO445.out za2.out (by decide)) (fun _ hk => hk.2) (.string t459)) (fun _ hk => hk.2) (.string t460)) (fun _ hk => hk.2) (.string t461)) (fun _ hk => hk.2) (.string t462)) (fun _ h_ => h_.1))) hb); replace HO448 := Aside0.mk (Kd.R_below (by (with_reducible repeat (first | apply Kd.R_alloc | apply Kd.R_drewN | apply Kd.R_drew)); exact (Kd.R_mono (Kd.R_far (p := ⟨za1, 3, none⟩) (Kd.R_far (p := ⟨za1, 2, none⟩) (Kd.R_far (p := ⟨za1, 1, none⟩) (Kd.R_far (p := ⟨za1, 0, none⟩) (Kd.R_types HO448.out za2.out (by decide)) (fun _ hk => hk.2) (.string t459)) (fun _ hk => hk.2) (.string t460)) (fun _ hk => hk.2) (.string t461)) (fun _ hk => hk.2) (.string t462)) (fun _ h_ => h_.1))) hb); have HO467 := Aside0.mk (Kd.R_lower ho38 (below_size (M.up HB))); replace zae := Aside0.mk (blk_below (g := zad) (o := .cells #[.int .i64 t442, .slice Ao31 t443.length co31, .slice Ao32 t446.length co32] 39 (0, 0)) (by refine M.fr ?_ za5; refine M.fr ?_ za5; refine M.fr ?_ za5; refine M.fr ?_ za5; exact M.bk zae) hb); replace za2 := Aside0.mk (blk_below (g := za1) (o := .cells #[.string t459, .string t460, .string t461, .string t462] 45 (0, 0)) (by refine M.fp (cs := #[.string t459, .string t460, .string t461, .string (⟨#[]⟩ : ByteArray)]) ?_ 3; refine M.fp (cs := #[.string t459, .string t460, .string (⟨#[]⟩ : ByteArray), .string (⟨#[]⟩ : ByteArray)]) ?_ 2; refine M.fp (cs := #[.string t459, .string (⟨#[]⟩ : ByteArray), .string (⟨#[]⟩ : ByteArray), .string (⟨#[]⟩ : ByteArray)]) ?_ 1; refine M.fp (cs := #[.string (⟨#[]⟩ : ByteArray), .string (⟨#[]⟩ : ByteArray), .string (⟨#[]⟩ : ByteArray), .string (⟨#[]⟩ : ByteArray)]) ?_ 0; exact M.bk za2) hb); replace HB := M.upS HB hb; clear hb ho38))
   go_ret2
   exact ⟨_, M.eqe, by (with_reducible repeat (first | apply Kd.R_alloc | apply Kd.R_drewN | apply Kd.R_drew)); exact HO467.out, M.up HB⟩
  ·replace c27 := Bool.eq_false_iff.mpr c27
   subst c27
   have H1 : ((pleachref35_Take.f a0).bind fun bt468 => (if bt468.2.2.2.2 = true then ((some (([] : List ByteArray) : List ByteArray)).bind fun y476 => (if y476.length + bt468.2.1.length < 8796093022208 then ((some (y476 ++ bt468.2.1 : List ByteArray)).bind fun y479 => ((some (([bt468.2.2.1] : List ByteArray) : List ByteArray)).bind fun y482 => (if y479.length + y482.length < 8796093022208 then (some ((y479 ++ y482), true)) else (none)))) else (none))) else (some (([] : List ByteArray), false)))) = some (r1, r2) := by rw [if_neg (show ¬ (false = true) by decide)] at H; exact H
   clear H
   have H := H1
   clear H1
   replace H := Option.bind_eq_some_iff.mp H
   obtain ⟨⟨t468, t469, t472, t473, t474⟩, A390, H⟩ := H
   replace H : (if t474 = true then ((some (([] : List ByteArray) : List ByteArray)).bind fun y476 => (if y476.length + t469.length < 8796093022208 then ((some (y476 ++ t469 : List ByteArray)).bind fun y479 => ((some (([t472] : List ByteArray) : List ByteArray)).bind fun y482 => (if y479.length + y482.length < 8796093022208 then (some ((y479 ++ y482), true)) else (none)))) else (none))) else (some (([] : List ByteArray), false))) = some (r1, r2) := H
   have A39 := Aside0.mk A390
   clear A390
   by_cases c40 : t474 = true
   ·subst c40
    have H1 : ((some (([] : List ByteArray) : List ByteArray)).bind fun y476 => (if y476.length + t469.length < 8796093022208 then ((some (y476 ++ t469 : List ByteArray)).bind fun y479 => ((some (([t472] : List ByteArray) : List ByteArray)).bind fun y482 => (if y479.length + y482.length < 8796093022208 then (some ((y479 ++ y482), true)) else (none)))) else (none))) = some (r1, r2) := by rw [if_pos rfl] at H; exact H
    clear H
    have H := H1
    clear H1
    obtain ⟨y476, hy476⟩ : ∃ y_ : List ByteArray, y_ = (([] : List ByteArray)) := ⟨_, rfl⟩
    replace H : (if y476.length + t469.length < 8796093022208 then ((some (y476 ++ t469 : List ByteArray)).bind fun y479 => ((some (([t472] : List ByteArray) : List ByteArray)).bind fun y482 => (if y479.length + y482.length < 8796093022208 then (some ((y479 ++ y482), true)) else (none)))) else (none)) = some (r1, r2) := by first | (rw [hy476]; with_reducible exact H) | (have H2_ := (Option.bind_some _ _).symm.trans H; rw [hy476]; with_reducible exact H2_) | (have H2_ := (Option.bind_some _ _).symm.trans H; with_reducible exact H2_) | with_reducible exact H | (rw [hy476]; exact H) | exact H
    have Ny476 := Aside0.mk hy476
    clear hy476
    by_cases c41 : y476.length + t469.length < 8796093022208
    ·rw [if_pos c41] at H
     have LMc41 := Aside0.mk c41
     clear c41
     obtain ⟨y479, hy479⟩ : ∃ y_ : List ByteArray, y_ = (y476 ++ t469) := ⟨_, rfl⟩
     replace H : ((some (([t472] : List ByteArray) : List ByteArray)).bind fun y482 => (if y479.length + y482.length < 8796093022208 then (some ((y479 ++ y482), true)) else (none))) = some (r1, r2) := by first | (rw [hy479]; with_reducible exact H) | (have H2_ := (Option.bind_some _ _).symm.trans H; rw [hy479]; with_reducible exact H2_) | (have H2_ := (Option.bind_some _ _).symm.trans H; with_reducible exact H2_) | with_reducible exact H | (rw [hy479]; exact H) | exact H
     have Ny479 := Aside0.mk hy479
     clear hy479
     obtain ⟨y482, hy482⟩ : ∃ y_ : List ByteArray, y_ = (([t472] : List ByteArray)) := ⟨_, rfl⟩
     replace H : (if y479.length + y482.length < 8796093022208 then (some ((y479 ++ y482), true)) else (none)) = some (r1, r2) := by first | (rw [hy482]; with_reducible exact H) | (have H2_ := (Option.bind_some _ _).symm.trans H; rw [hy482]; with_reducible exact H2_) | (have H2_ := (Option.bind_some _ _).symm.trans H; with_reducible exact H2_) | with_reducible exact H | (rw [hy482]; exact H) | exact H
     have Ny482 := Aside0.mk hy482
     clear hy482
     by_cases c42 : y479.length + y482.length < 8796093022208
     ·rw [if_pos c42] at H
      have LMc42 := Aside0.mk c42
      clear c42
      obtain ⟨y485, hy485⟩ : ∃ y_ : List ByteArray, y_ = (y479 ++ y482) := ⟨_, rfl⟩
      replace H : (some (y485, true)) = some (r1, r2) := by first | (rw [hy485]; with_reducible exact H) | (have H2_ := (Option.bind_some _ _).symm.trans H; rw [hy485]; with_reducible exact H2_) | (have H2_ := (Option.bind_some _ _).symm.trans H; with_reducible exact H2_) | with_reducible exact H | (rw [hy485]; exact H) | exact H
      have Ny485 := Aside0.mk hy485
      clear hy485
      simp only [Option.some.injEq, Prod.mk.injEq] at H
      obtain ⟨rfl, rfl⟩ := H
      go_enter Tryd.func6, Tryd.ntmps6
      try go_wp2_with (first | ((with_reducible refine gate_callee (f := 15) rfl ?_); refine M.goes (some 13) Tryd.func15 #[.string a0] rfl ?_; (with_reducible refine (pleachref19_Take.calls a0 t442 t443 t446 false _ A2.out).mono ?_); rintro e w43 ⟨v444, v447, rfl, ho0, ho1, hb⟩; refine ⟨_, rfl, ?_⟩; have HO445 := Aside0.mk (Kd.R_lower ho0 (below_size (M.up HB))); have HO448 := Aside0.mk (Kd.R_lower ho1 (below_size (M.up HB))); replace HB := M.upS HB hb; (try clear hb); (try clear ho0); (try clear ho1)) | ((with_reducible refine gate_dst (N := 4) rfl ?_); refine M.bx 4 39 (#[.int .i64 0, .slice none 0 0, .slice none 0 0]) ?_; intro zad hg w44 hbox hb; replace HO445 := M.roB HO445 hb; replace HO448 := M.roB HO448 hb; have zae := Aside0.mk (hbox); have zaf := M.upG HB hg; have zag := M.upG HB hg; replace HB := M.upS HB hb; clear hb hbox hg; obtain ⟨zbh, zbi, zbj⟩ := M.bc3 (w := w44) (a := .int .i64 0) (b := .slice none 0 0) (c := .slice none 0 0) zae.out; obtain ⟨zbk, zbl, zbm⟩ := M.bf3 zae; obtain ⟨Ao46, co46, eo46⟩ := Kd.R_slice HO445.out; subst eo46; obtain ⟨Ao47, co47, eo47⟩ := Kd.R_slice HO448.out; subst eo47) | ((with_reducible refine gate_callee (f := 16) rfl ?_); refine M.goes (some 36) Tryd.func16 #[.string a0] rfl ?_; (with_reducible refine (pleachref32_Take.calls a0 t459 t460 t461 t462 false _ A26.out).mono ?_); rintro e w48 ⟨rfl, hb⟩; refine ⟨_, rfl, ?_⟩; replace HO445 := Aside0.mk (Kd.R_below (by (with_reducible repeat (first | apply Kd.R_alloc | apply Kd.R_drewN | apply Kd.R_drew)); exact (Kd.R_mono (Kd.R_far (p := ⟨zad, 2, none⟩) (Kd.R_far (p := ⟨zad, 1, none⟩) (Kd.R_far (p := ⟨zad, 0, none⟩) (Kd.R_types HO445.out zae.out (by decide)) (fun _ hk => hk.2) (.int .i64 t442)) (fun _ hk => hk.2) (.slice Ao46 t443.length co46)) (fun _ hk => hk.2) (.slice Ao47 t446.length co47)) (fun _ h_ => h_.1))) hb); replace HO448 := Aside0.mk (Kd.R_below (by (with_reducible repeat (first | apply Kd.R_alloc | apply Kd.R_drewN | apply Kd.R_drew)); exact (Kd.R_mono (Kd.R_far (p := ⟨zad, 2, none⟩) (Kd.R_far (p := ⟨zad, 1, none⟩) (Kd.R_far (p := ⟨zad, 0, none⟩) (Kd.R_types HO448.out zae.out (by decide)) (fun _ hk => hk.2) (.int .i64 t442)) (fun _ hk => hk.2) (.slice Ao46 t443.length co46)) (fun _ hk => hk.2) (.slice Ao47 t446.length co47)) (fun _ h_ => h_.1))) hb); replace zae := Aside0.mk (blk_below (g := zad) (o := .cells #[.int .i64 t442, .slice Ao46 t443.length co46, .slice Ao47 t446.length co47] 39 (0, 0)) (by refine M.fp (cs := #[.int .i64 t442, .slice Ao46 t443.length co46, .slice none 0 0]) ?_ 2; refine M.fp (cs := #[.int .i64 t442, .slice none 0 0, .slice none 0 0]) ?_ 1; refine M.fp (cs := #[.int .i64 0, .slice none 0 0, .slice none 0 0]) ?_ 0; exact M.bk zae) hb); replace HB := M.upS HB hb; (try clear hb)) | ((with_reducible refine gate_dst (N := 9) rfl ?_); refine M.bx 9 45 (#[.string (⟨#[]⟩ : ByteArray), .string (⟨#[]⟩ : ByteArray), .string (⟨#[]⟩ : ByteArray), .string (⟨#[]⟩ : ByteArray)]) ?_; intro za1 hg w49 hbox hb; replace HO445 := M.roB HO445 hb; replace HO448 := M.roB HO448 hb; have za2 := Aside0.mk (hbox); have za3 := M.upG HB hg; have za4 := M.upG HB hg; replace HB := M.upS HB hb; have za5 := M.bkL zae hg; have za6 := M.bkG zae hg; replace zae := M.bkB zae hb; clear hb hbox hg; have zbn := za6.out; have zbo := za5.out; have zbp : w49.cell? ⟨za1, 0, none⟩ = some (.string (⟨#[]⟩ : ByteArray)) := (blk_cell za2.out 0).trans rfl; have zbq : w49.cell? ⟨za1, 1, none⟩ = some (.string (⟨#[]⟩ : ByteArray)) := (blk_cell za2.out 1).trans rfl; have zbr : w49.cell? ⟨za1, 2, none⟩ = some (.string (⟨#[]⟩ : ByteArray)) := (blk_cell za2.out 2).trans rfl; have zbs : w49.cell? ⟨za1, 3, none⟩ = some (.string (⟨#[]⟩ : ByteArray)) := (blk_cell za2.out 3).trans rfl; have zbt := blk_frozen za2.out 0; have zbu := blk_frozen za2.out 1; have zbv := blk_frozen za2.out 2; have zbw := blk_frozen za2.out 3) | ((with_reducible refine gate_callee (f := 17) rfl ?_); refine M.goes (some 51) Tryd.func17 #[.string a0] rfl ?_; (with_reducible refine (pleachref35_Take.calls a0 t468 t469 t472 t473 true _ A39.out).mono ?_); rintro e w52 ⟨v470, rfl, ho0, hb⟩; refine ⟨_, rfl, ?_⟩; replace HO445 := Aside0.mk (Kd.R_below (by (with_reducible repeat (first | apply Kd.R_alloc | apply Kd.R_drewN | apply Kd.R_drew)); exact (Kd.R_mono (Kd.R_far (p := ⟨za1, 3, none⟩) (Kd.R_far (p := ⟨za1, 2, none⟩) (Kd.R_far (p := ⟨za1, 1, none⟩) (Kd.R_far (p := ⟨za1, 0, none⟩) (Kd.R_types HO445.out za2.out (by decide)) (fun _ hk => hk.2) (.string t459)) (fun _ hk => hk.2) (.string t460)) (fun _ hk => hk.2) (.string t461)) (fun _ hk => hk.2) (.string t462)) (fun _ h_ => h_.1))) hb); replace HO448 := Aside0.mk (Kd.R_below (by (with_reducible repeat (first | apply Kd.R_alloc | apply Kd.R_drewN | apply Kd.R_drew)); exact (Kd.R_mono (Kd.R_far (p := ⟨za1, 3, none⟩) (Kd.R_far (p := ⟨za1, 2, none⟩) (Kd.R_far (p := ⟨za1, 1, none⟩) (Kd.R_far (p := ⟨za1, 0, none⟩) (Kd.R_types HO448.out za2.out (by decide)) (fun _ hk => hk.2) (.string t459)) (fun _ hk => hk.2) (.string t460)) (fun _ hk => hk.2) (.string t461)) (fun _ hk => hk.2) (.string t462)) (fun _ h_ => h_.1))) hb); have HO471 := Aside0.mk (Kd.R_lower ho0 (below_size (M.up HB))); replace zae := Aside0.mk (blk_below (g := zad) (o := .cells #[.int .i64 t442, .slice Ao46 t443.length co46, .slice Ao47 t446.length co47] 39 (0, 0)) (by refine M.fr ?_ za5; refine M.fr ?_ za5; refine M.fr ?_ za5; refine M.fr ?_ za5; exact M.bk zae) hb); replace za2 := Aside0.mk (blk_below (g := za1) (o := .cells #[.string t459, .string t460, .string t461, .string t462] 45 (0, 0)) (by refine M.fp (cs := #[.string t459, .string t460, .string t461, .string (⟨#[]⟩ : ByteArray)]) ?_ 3; refine M.fp (cs := #[.string t459, .string t460, .string (⟨#[]⟩ : ByteArray), .string (⟨#[]⟩ : ByteArray)]) ?_ 2; refine M.fp (cs := #[.string t459, .string (⟨#[]⟩ : ByteArray), .string (⟨#[]⟩ : ByteArray), .string (⟨#[]⟩ : ByteArray)]) ?_ 1; refine M.fp (cs := #[.string (⟨#[]⟩ : ByteArray), .string (⟨#[]⟩ : ByteArray), .string (⟨#[]⟩ : ByteArray), .string (⟨#[]⟩ : ByteArray)]) ?_ 0; exact M.bk za2) hb); replace HB := M.upS HB hb; (try clear hb); (try clear ho0)) | ((with_reducible refine gate_dst (N := 10) rfl ?_); refine M.bx 10 49 (#[.int .i64 0, .slice none 0 0, .string (⟨#[]⟩ : ByteArray), .string (⟨#[]⟩ : ByteArray)]) ?_; intro zbx hg w53 hbox hb; replace HO445 := M.roB HO445 hb; replace HO448 := M.roB HO448 hb; replace HO471 := M.roB HO471 hb; have zby := Aside0.mk (hbox); have zbz := M.upG HB hg; have zbA := M.upG HB hg; replace HB := M.upS HB hb; have zbB := M.bkL zae hg; have zbC := M.bkG zae hg; replace zae := M.bkB zae hb; have zbD := M.bkL za2 hg; have zbE := M.bkG za2 hg; replace za2 := M.bkB za2 hb; clear hb hbox hg; have zbF := zbC.out; have zbG := zbB.out; have zbH := zbE.out; have zbI := zbD.out; have zbJ : w53.cell? ⟨zbx, 0, none⟩ = some (.int .i64 0) := (blk_cell zby.out 0).trans rfl; have zbK : w53.cell? ⟨zbx, 1, none⟩ = some (.slice none 0 0) := (blk_cell zby.out 1).trans rfl; have zbL : w53.cell? ⟨zbx, 2, none⟩ = some (.string (⟨#[]⟩ : ByteArray)) := (blk_cell zby.out 2).trans rfl; have zbM : w53.cell? ⟨zbx, 3, none⟩ = some (.string (⟨#[]⟩ : ByteArray)) := (blk_cell zby.out 3).trans rfl; have zbN := blk_frozen zby.out 0; have zbO := blk_frozen zby.out 1; have zbP := blk_frozen zby.out 2; have zbQ := blk_frozen zby.out 3; obtain ⟨Ao57, co57, eo57⟩ := Kd.R_slice HO471.out; subst eo57))
      have n0_ : Aside0 (Kd.R k43 43 ((((w53.setCell ⟨zbx, 0, none⟩ (.int .i64 t468)).setCell ⟨zbx, 1, none⟩ (.slice Ao57 t469.length co57)).setCell ⟨zbx, 2, none⟩ (.string t472)).setCell ⟨zbx, 3, none⟩ (.string t473)) w.heap.size (fun _ => True) (.slice Ao46 t443.length co46) t443) := ⟨by (with_reducible repeat (first | apply Kd.R_alloc | apply Kd.R_drewN | apply Kd.R_drew)); exact Kd.R_mono (Kd.R_far (p := ⟨zbx, 3, none⟩) (Kd.R_far (p := ⟨zbx, 2, none⟩) (Kd.R_far (p := ⟨zbx, 1, none⟩) (Kd.R_far (p := ⟨zbx, 0, none⟩) (Kd.R_types HO445.out zby.out (by decide)) (fun _ hk => hk.2) (.int .i64 t468)) (fun _ hk => hk.2) (.slice Ao57 t469.length co57)) (fun _ hk => hk.2) (.string t472)) (fun _ hk => hk.2) (.string t473)) (fun _ hk => trivial)⟩
      have n1_ : Aside0 (Kd.R (Kd.int .i64) 3 ((((w53.setCell ⟨zbx, 0, none⟩ (.int .i64 t468)).setCell ⟨zbx, 1, none⟩ (.slice Ao57 t469.length co57)).setCell ⟨zbx, 2, none⟩ (.string t472)).setCell ⟨zbx, 3, none⟩ (.string t473)) w.heap.size (fun _ => True) (.slice Ao47 t446.length co47) t446) := ⟨by (with_reducible repeat (first | apply Kd.R_alloc | apply Kd.R_drewN | apply Kd.R_drew)); exact Kd.R_mono (Kd.R_far (p := ⟨zbx, 3, none⟩) (Kd.R_far (p := ⟨zbx, 2, none⟩) (Kd.R_far (p := ⟨zbx, 1, none⟩) (Kd.R_far (p := ⟨zbx, 0, none⟩) (Kd.R_types HO448.out zby.out (by decide)) (fun _ hk => hk.2) (.int .i64 t468)) (fun _ hk => hk.2) (.slice Ao57 t469.length co57)) (fun _ hk => hk.2) (.string t472)) (fun _ hk => hk.2) (.string t473)) (fun _ hk => trivial)⟩
      have n2_ : Aside0 (Kd.R Kd.string 9 ((((w53.setCell ⟨zbx, 0, none⟩ (.int .i64 t468)).setCell ⟨zbx, 1, none⟩ (.slice Ao57 t469.length co57)).setCell ⟨zbx, 2, none⟩ (.string t472)).setCell ⟨zbx, 3, none⟩ (.string t473)) w.heap.size (fun _ => True) (.slice Ao57 t469.length co57) t469) := ⟨by (with_reducible repeat (first | apply Kd.R_alloc | apply Kd.R_drewN | apply Kd.R_drew)); exact Kd.R_mono (Kd.R_far (p := ⟨zbx, 3, none⟩) (Kd.R_far (p := ⟨zbx, 2, none⟩) (Kd.R_far (p := ⟨zbx, 1, none⟩) (Kd.R_far (p := ⟨zbx, 0, none⟩) (Kd.R_types HO471.out zby.out (by decide)) (fun _ hk => hk.2) (.int .i64 t468)) (fun _ hk => hk.2) (.slice Ao57 t469.length co57)) (fun _ hk => hk.2) (.string t472)) (fun _ hk => hk.2) (.string t473)) (fun _ hk => trivial)⟩
      have n3_ : Aside0 (((((w53.setCell ⟨zbx, 0, none⟩ (.int .i64 t468)).setCell ⟨zbx, 1, none⟩ (.slice Ao57 t469.length co57)).setCell ⟨zbx, 2, none⟩ (.string t472)).setCell ⟨zbx, 3, none⟩ (.string t473)).heap[zad]? = some (.cells #[.int .i64 t442, .slice Ao46 t443.length co46, .slice Ao47 t446.length co47] 39 (0, 0))) := ⟨by refine M.fr ?_ zbB; refine M.fr ?_ zbB; refine M.fr ?_ zbB; refine M.fr ?_ zbB; exact M.bk zae⟩
      have n4_ : Aside0 (((((w53.setCell ⟨zbx, 0, none⟩ (.int .i64 t468)).setCell ⟨zbx, 1, none⟩ (.slice Ao57 t469.length co57)).setCell ⟨zbx, 2, none⟩ (.string t472)).setCell ⟨zbx, 3, none⟩ (.string t473)).heap[za1]? = some (.cells #[.string t459, .string t460, .string t461, .string t462] 45 (0, 0))) := ⟨by refine M.fr ?_ zbD; refine M.fr ?_ zbD; refine M.fr ?_ zbD; refine M.fr ?_ zbD; exact M.bk za2⟩
      have n5_ : Aside0 (((((w53.setCell ⟨zbx, 0, none⟩ (.int .i64 t468)).setCell ⟨zbx, 1, none⟩ (.slice Ao57 t469.length co57)).setCell ⟨zbx, 2, none⟩ (.string t472)).setCell ⟨zbx, 3, none⟩ (.string t473)).heap[zbx]? = some (.cells #[.int .i64 t468, .slice Ao57 t469.length co57, .string t472, .string t473] 49 (0, 0))) := ⟨by refine M.fp (cs := #[.int .i64 t468, .slice Ao57 t469.length co57, .string t472, .string (⟨#[]⟩ : ByteArray)]) ?_ 3; refine M.fp (cs := #[.int .i64 t468, .slice Ao57 t469.length co57, .string (⟨#[]⟩ : ByteArray), .string (⟨#[]⟩ : ByteArray)]) ?_ 2; refine M.fp (cs := #[.int .i64 t468, .slice none 0 0, .string (⟨#[]⟩ : ByteArray), .string (⟨#[]⟩ : ByteArray)]) ?_ 1; refine M.fp (cs := #[.int .i64 0, .slice none 0 0, .string (⟨#[]⟩ : ByteArray), .string (⟨#[]⟩ : ByteArray)]) ?_ 0; exact M.bk zby⟩
      have n6_ : Aside0 (Below w.heap.size w ((((w53.setCell ⟨zbx, 0, none⟩ (.int .i64 t468)).setCell ⟨zbx, 1, none⟩ (.slice Ao57 t469.length co57)).setCell ⟨zbx, 2, none⟩ (.string t472)).setCell ⟨zbx, 3, none⟩ (.string t473))) := ⟨M.up HB⟩
      (try clear HO445)
      (try clear HO448)
      (try clear HO471)
      (try clear zae)
      (try clear za2)
      (try clear zby)
      (try clear HB)
      generalize ((((w53.setCell ⟨zbx, 0, none⟩ (.int .i64 t468)).setCell ⟨zbx, 1, none⟩ (.slice Ao57 t469.length co57)).setCell ⟨zbx, 2, none⟩ (.string t472)).setCell ⟨zbx, 3, none⟩ (.string t473)) = w58 at n0_ n1_ n2_ n3_ n4_ n5_ n6_ ⊢
      have HO445 := n0_
      have HO448 := n1_
      have HO471 := n2_
      have zae := n3_
      have za2 := n4_
      have zby := n5_
      have HB := n6_
      clear n0_ n1_ n2_ n3_ n4_ n5_ n6_
      replace HO445 := Aside0.mk (Kd.R_drew HO445.out); replace HO448 := Aside0.mk (Kd.R_drew HO448.out); replace HO471 := Aside0.mk (Kd.R_drew HO471.out); replace zae := Aside0.mk (blk_drew zae.out); replace za2 := Aside0.mk (blk_drew za2.out); replace zby := Aside0.mk (blk_drew zby.out); replace HB := Aside0.mk (below_drew1 HB.out)
      refine start_ (n := 10) (S := fun w' => w'.cell? ⟨zbx, 0, none⟩ = some (.int .i64 t468) ∧ w'.cell? ⟨zbx, 1, none⟩ = some (.slice Ao57 t469.length co57) ∧ w'.cell? ⟨zbx, 2, none⟩ = some (.string t472) ∧ w'.cell? ⟨zbx, 3, none⟩ = some (.string t473)) (ds := []) #[false, false, false, false, false, false, false, false, false, false] (by kernel_rfl) rfl rfl ⟨(blk_cell zby.out 0).trans rfl, (blk_cell zby.out 1).trans rfl, (blk_cell zby.out 2).trans rfl, (blk_cell zby.out 3).trans rfl⟩ (fun hHeld => ?_); refine with_tabW pleachref39_Names.tab16 pleachref39_Names.bits16 (fun HT_ HW_ => ?_)
      generalize w58.drew = w59 at HO445 HO448 HO471 zae za2 zby HB hHeld ⊢
      refine M.pu 1 56 [0, 1, 1, 8] HT_ ?_
      refine M.pu 4 59 [0, 1, 1, 2, 1, 5] HT_ ?_
      refine M.tk 2 57 [0, 1, 2, 1, 1, 5] HT_ HW_ hHeld ?_
      refine M.tk 5 60 [0, 1, 2, 1, 2, 4] HT_ HW_ hHeld ?_
      refine join_ (σ := Value × Value × Value) 3 #[true, true, true, true, true, true, true, false, false, false] (fun s_ => [(55, s_.1), (58, s_.2.1), (61, s_.2.2)]) (fun s_ w' => (w'.cell? ⟨zbx, 0, none⟩ = some (.int .i64 t468) ∧ w'.cell? ⟨zbx, 1, none⟩ = some (.slice Ao57 t469.length co57) ∧ w'.cell? ⟨zbx, 2, none⟩ = some (.string t472) ∧ w'.cell? ⟨zbx, 3, none⟩ = some (.string t473)) ∧ (Kd.R k43 43 w' w.heap.size (fun _ => True) (.slice Ao46 t443.length co46) t443) ∧ (Kd.R (Kd.int .i64) 3 w' w.heap.size (fun _ => True) (.slice Ao47 t446.length co47) t446) ∧ (Kd.R Kd.string 9 w' w.heap.size (fun k_ => some k_ ≠ (s_.2.1 : Value).ownBlock ∧ some k_ ≠ (s_.2.2 : Value).ownBlock) (.slice Ao57 t469.length co57) t469) ∧ (Kd.R Kd.string 9 w' w.heap.size (fun k_ => some k_ ≠ (.slice Ao57 t469.length co57 : Value).ownBlock ∧ some k_ ≠ (s_.2.2 : Value).ownBlock) s_.2.1 y479) ∧ (Kd.R Kd.string 9 w' w.heap.size (fun k_ => some k_ ≠ (.slice Ao57 t469.length co57 : Value).ownBlock ∧ some k_ ≠ (s_.2.1 : Value).ownBlock) s_.2.2 y482) ∧ (w'.heap[zad]? = some (.cells #[.int .i64 t442, .slice Ao46 t443.length co46, .slice Ao47 t446.length co47] 39 (0, 0))) ∧ (w'.heap[za1]? = some (.cells #[.string t459, .string t460, .string t461, .string t462] 45 (0, 0))) ∧ (w'.heap[zbx]? = some (.cells #[.int .i64 t468, .slice Ao57 t469.length co57, .string t472, .string t473] 49 (0, 0))) ∧ (Below w.heap.size w w')) ?_ ?_
      rotate_left
      ·intro hCont
       refine two_ (i := 0) (j := 6) (Ni := some 55) (Nj := some 61) #[true, true, true, false, true, true, false, false, false, false] #[false, true, true, false, true, true, true, false, false, false] rfl rfl rfl rfl (two_of HT_.out (by kernel_rfl)) (by decide) (by decide) (fun K hK => ?_) (fun K hK => ?_)
       ·skip
        refine Kd.R_lit_step Kd.string _ 9 ?hg (N := 55) ?hd (xs := ([] : List ByteArray)) (inner := []) (ok := fun _ => True) (okp := fun _ => True) ?hr ?hp (fun _ hk => hk) trivial (Below.refl _ _) (Nat.le_refl _) (by simp) ?_; (case hd => rfl); (case hg => rfl); (case hr => first | (go_simp; done) | (go_simp; rfl)); (case hp => exact (Reps.none _ _))
        intro v477 w60 ho61 hb hg_ hnew_
        clear hg_ hnew_
        (first | rw [← Ny476.out] at ho61 | (simp only [Int.reduceToNat] at ho61; rw [← Ny476.out] at ho61))
        replace HO445 := M.roB HO445 hb; replace HO448 := M.roB HO448 hb; have HO478 := Aside0.mk (Kd.R_lower (Kd.R_new' ho61 (Kd.R_lt (M.ro HO471))) (below_size (M.up HB))); replace HO471 := Aside0.mk (Kd.R_elder' (M.ro HO471) (Kd.R_base ho61) hb); replace zae := M.bkB zae hb; replace za2 := M.bkB za2 hb; replace zby := M.bkB zby hb; replace HB := M.upS HB hb
        clear hb ho61
        refine hK.out _ _ ⟨(blk_cell zby.out 0).trans rfl, (blk_cell zby.out 1).trans rfl, (blk_cell zby.out 2).trans rfl, (blk_cell zby.out 3).trans rfl⟩ (fun hHeld => ?_)
        clear hK K
        refine norm_ (a' := ?_) ?_ ?_
        rotate_left
        ·show Act.put _ (some 55) _ = _
         simp only [Act.put, List.setIfInBounds_toArray, List.set_cons_zero, List.set_cons_succ, i64_w, i32_w]
         rfl
        refine two_ (i := 3) (j := 6) (Ni := some 58) (Nj := some 61) #[true, true, true, true, true, true, false, false, false, false] #[true, true, true, false, true, true, true, false, false, false] rfl rfl rfl rfl (two_of HT_.out (by kernel_rfl)) (by decide) (by decide) (fun K hK => ?_) (fun K hK => ?_)
        ·skip
         refine Kd.R_append_rows_step Kd.string (w0 := w) w.heap.size (by rfl) (.tmp 55) (.tmp 57) 23 9 (.string ⟨#[]⟩) 16 rfl Tryd.underlying23 info9 rfl (by decide) (by omega) v477 y476 t469 _ _ _ (fun k_ => some k_ ≠ (.slice Ao57 t469.length co57 : Value).ownBlock) (fun _ => False) rfl rfl ?aO ?aR (fun _ _ h => h) (fun _ h => h.elim) ?aF ?aB ?aS ?aL ?_
         (case aR => repeat (first | exact (Kd.R_reads' HO471.out).2.2 | (with_reducible refine Kd.C_alloc ?_ _) | (with_reducible refine Kd.C_drewN ?_ _) | (with_reducible refine Kd.C_drew ?_)))
         (case aB => exact (M.up HB))
         (case aF => exact (fun k_ hk => Kd.fresh' (Kd.R_lt (M.ro HO471)) k_ hk))
         (case aO => exact (by (with_reducible repeat (first | apply Kd.R_alloc | apply Kd.R_drewN | apply Kd.R_drew)); exact Kd.R_mono HO478.out (fun _ hk => hk.2)))
         (case aS => exact (below_size (M.up HB)))
         (case aL => have := LMc41.out; omega)
         intro v480 w62 ho hb hg hat
         rw [← Ny479.out] at ho
         replace HO445 := Aside0.mk (Kd.R_over' (M.ro HO445) (Kd.R_typed (M.ro HO478)) (by decide) hg); replace HO448 := Aside0.mk (Kd.R_over' (M.ro HO448) (Kd.R_typed (M.ro HO478)) (by decide) hg); replace zae := Aside0.mk (blk_grown (g := zad) (o := .cells #[.int .i64 t442, .slice Ao46 t443.length co46, .slice Ao47 t446.length co47] 39 (0, 0)) (M.bk zae) hg (Kd.R_ne HO478.out zae.out (by decide))); replace za2 := Aside0.mk (blk_grown (g := za1) (o := .cells #[.string t459, .string t460, .string t461, .string t462] 45 (0, 0)) (M.bk za2) hg (Kd.R_ne HO478.out za2.out (by decide))); replace HO471 := Aside0.mk (Kd.R_after (ok := (fun _ => True)) (M.ro HO471) hg hat); replace zby := Aside0.mk (blk_grown (g := zbx) (o := .cells #[.int .i64 t468, .slice Ao57 t469.length co57, .string t472, .string t473] 49 (0, 0)) (M.bk zby) hg (Kd.R_ne HO478.out zby.out (by decide))); replace HB := Aside0.mk (hb); have HO481 := Aside0.mk (ho); clear HO478
         clear ho hb hg hat
         refine hK.out _ _ ⟨(blk_cell zby.out 0).trans rfl, (blk_cell zby.out 1).trans rfl, (blk_cell zby.out 2).trans rfl, (blk_cell zby.out 3).trans rfl⟩ (fun hHeld => ?_)
         clear hK K
         refine norm_ (a' := ?_) ?_ ?_
         rotate_left
         ·show Act.put _ (some 58) _ = _
          simp only [Act.put, List.setIfInBounds_toArray, List.set_cons_zero, List.set_cons_succ, i64_w, i32_w]
          rfl
         refine one_ (i := 6) (N := some 61) #[true, true, true, true, true, true, true, false, false, false] rfl rfl (one_of HT_.out (by kernel_rfl)) (by decide) (fun K hK => ?_)
         refine Kd.R_lit_step Kd.string _ 9 ?hg (N := 61) ?hd (xs := ([t472] : List ByteArray)) (inner := [.string t472]) (ok := fun _ => True) (okp := fun _ => True) ?hr ?hp (fun _ hk => hk) trivial (Below.refl _ _) (Nat.le_refl _) (by simp) ?_; (case hd => rfl); (case hg => rfl); (case hr => first | (go_simp; done) | (go_simp; rfl)); (case hp => exact (Reps.one (show Kd.M Kd.string _ _ _ t472 [.string t472] from rfl) (Reps.none _ _)))
         intro v483 w63 ho64 hb hg_ hnew_
         clear hg_ hnew_
         (first | rw [← Ny482.out] at ho64 | (simp only [Int.reduceToNat] at ho64; rw [← Ny482.out] at ho64))
         replace HO445 := M.roB HO445 hb; replace HO448 := M.roB HO448 hb; have HO484 := Aside0.mk (Kd.R_lower (Kd.R_new' (Kd.R_new' ho64 (Kd.R_lt (M.ro HO471))) (Kd.R_lt (M.ro HO481))) (below_size (M.up HB))); replace HO471 := Aside0.mk (Kd.R_elder' (M.ro HO471) (Kd.R_base ho64) hb); replace HO481 := Aside0.mk (Kd.R_elder' (M.ro HO481) (Kd.R_base ho64) hb); replace zae := M.bkB zae hb; replace za2 := M.bkB za2 hb; replace zby := M.bkB zby hb; replace HB := M.upS HB hb
         clear hb ho64
         refine hK.out _ _ ⟨(blk_cell zby.out 0).trans rfl, (blk_cell zby.out 1).trans rfl, (blk_cell zby.out 2).trans rfl, (blk_cell zby.out 3).trans rfl⟩ (fun hHeld => ?_)
         clear hK K
         refine norm_ (a' := ?_) ?_ ?_
         rotate_left
         ·show Act.put _ (some 61) _ = _
          simp only [Act.put, List.setIfInBounds_toArray, List.set_cons_zero, List.set_cons_succ, i64_w, i32_w]
          rfl
         exact norm_ (by simp only [putAll, Act.put, List.setIfInBounds_toArray, List.set_cons_zero, List.set_cons_succ]) (hCont (v477, v480, v483) _ ⟨hHeld, (M.ro HO445), (M.ro HO448), (by (with_reducible repeat (first | apply Kd.R_alloc | apply Kd.R_drewN | apply Kd.R_drew)); exact Kd.R_mono HO471.out (fun _ hk => ⟨hk.1.2, hk.2⟩)), (M.ro HO481), (by (with_reducible repeat (first | apply Kd.R_alloc | apply Kd.R_drewN | apply Kd.R_drew)); exact Kd.R_mono HO484.out (fun _ hk => ⟨hk.1.2, hk.2⟩)), (M.bk zae), (M.bk za2), (M.bk zby), (M.up HB)⟩)
        ·skip
         refine Kd.R_lit_step Kd.string _ 9 ?hg (N := 61) ?hd (xs := ([t472] : List ByteArray)) (inner := [.string t472]) (ok := fun _ => True) (okp := fun _ => True) ?hr ?hp (fun _ hk => hk) trivial (Below.refl _ _) (Nat.le_refl _) (by simp) ?_; (case hd => rfl); (case hg => rfl); (case hr => first | (go_simp; done) | (go_simp; rfl)); (case hp => exact (Reps.one (show Kd.M Kd.string _ _ _ t472 [.string t472] from rfl) (Reps.none _ _)))
         intro v483 w62 ho63 hb hg_ hnew_
         clear hg_ hnew_
         (first | rw [← Ny482.out] at ho63 | (simp only [Int.reduceToNat] at ho63; rw [← Ny482.out] at ho63))
         replace HO445 := M.roB HO445 hb; replace HO448 := M.roB HO448 hb; have HO484 := Aside0.mk (Kd.R_lower (Kd.R_new' (Kd.R_new' ho63 (Kd.R_lt (M.ro HO471))) (Kd.R_lt (M.ro HO478))) (below_size (M.up HB))); replace HO471 := Aside0.mk (Kd.R_elder' (M.ro HO471) (Kd.R_base ho63) hb); replace HO478 := Aside0.mk (Kd.R_elder' (M.ro HO478) (Kd.R_base ho63) hb); replace zae := M.bkB zae hb; replace za2 := M.bkB za2 hb; replace zby := M.bkB zby hb; replace HB := M.upS HB hb
         clear hb ho63
         refine hK.out _ _ ⟨(blk_cell zby.out 0).trans rfl, (blk_cell zby.out 1).trans rfl, (blk_cell zby.out 2).trans rfl, (blk_cell zby.out 3).trans rfl⟩ (fun hHeld => ?_)
         clear hK K
         refine norm_ (a' := ?_) ?_ ?_
         rotate_left
         ·show Act.put _ (some 61) _ = _
          simp only [Act.put, List.setIfInBounds_toArray, List.set_cons_zero, List.set_cons_succ, i64_w, i32_w]
          rfl
         refine one_ (i := 3) (N := some 58) #[true, true, true, true, true, true, true, false, false, false] rfl rfl (one_of HT_.out (by kernel_rfl)) (by decide) (fun K hK => ?_)
         refine Kd.R_append_rows_step Kd.string (w0 := w) w.heap.size (by rfl) (.tmp 55) (.tmp 57) 23 9 (.string ⟨#[]⟩) 16 rfl Tryd.underlying23 info9 rfl (by decide) (by omega) v477 y476 t469 _ _ _ (fun k_ => some k_ ≠ (.slice Ao57 t469.length co57 : Value).ownBlock ∧ some k_ ≠ (v483 : Value).ownBlock) (fun _ => False) rfl rfl ?aO ?aR (fun _ _ h => h) (fun _ h => h.elim) ?aF ?aB ?aS ?aL ?_
         (case aR => repeat (first | exact (Kd.R_reads' HO471.out).2.2 | (with_reducible refine Kd.C_alloc ?_ _) | (with_reducible refine Kd.C_drewN ?_ _) | (with_reducible refine Kd.C_drew ?_)))
         (case aB => exact (M.up HB))
         (case aF => exact (fun k_ hk => ⟨Kd.fresh' (Kd.R_lt (M.ro HO471)) k_ hk, Kd.fresh' (Kd.R_lt (M.ro HO484)) k_ hk⟩))
         (case aO => exact (by (with_reducible repeat (first | apply Kd.R_alloc | apply Kd.R_drewN | apply Kd.R_drew)); exact Kd.R_mono HO478.out (fun _ hk => ⟨hk.1.2, hk.2⟩)))
         (case aS => exact (below_size (M.up HB)))
         (case aL => have := LMc41.out; omega)
         intro v480 w64 ho hb hg hat
         rw [← Ny479.out] at ho
         replace HO445 := Aside0.mk (Kd.R_over' (M.ro HO445) (Kd.R_typed (M.ro HO478)) (by decide) hg); replace HO448 := Aside0.mk (Kd.R_over' (M.ro HO448) (Kd.R_typed (M.ro HO478)) (by decide) hg); replace zae := Aside0.mk (blk_grown (g := zad) (o := .cells #[.int .i64 t442, .slice Ao46 t443.length co46, .slice Ao47 t446.length co47] 39 (0, 0)) (M.bk zae) hg (Kd.R_ne HO478.out zae.out (by decide))); replace za2 := Aside0.mk (blk_grown (g := za1) (o := .cells #[.string t459, .string t460, .string t461, .string t462] 45 (0, 0)) (M.bk za2) hg (Kd.R_ne HO478.out za2.out (by decide))); replace HO471 := Aside0.mk (Kd.R_after (ok := (fun k_ => some k_ ≠ (v483 : Value).ownBlock)) (by (with_reducible repeat (first | apply Kd.R_alloc | apply Kd.R_drewN | apply Kd.R_drew)); exact Kd.R_mono HO471.out (fun _ hk => ⟨hk.2, hk.1.2⟩)) hg hat); replace zby := Aside0.mk (blk_grown (g := zbx) (o := .cells #[.int .i64 t468, .slice Ao57 t469.length co57, .string t472, .string t473] 49 (0, 0)) (M.bk zby) hg (Kd.R_ne HO478.out zby.out (by decide))); replace HO484 := Aside0.mk (Kd.R_after (ok := (fun k_ => some k_ ≠ (.slice Ao57 t469.length co57 : Value).ownBlock)) (by (with_reducible repeat (first | apply Kd.R_alloc | apply Kd.R_drewN | apply Kd.R_drew)); exact Kd.R_mono HO484.out (fun _ hk => ⟨hk.1.2, hk.2⟩)) hg hat); replace HB := Aside0.mk (hb); have HO481 := Aside0.mk (ho); clear HO478
         clear ho hb hg hat
         refine hK.out _ _ ⟨(blk_cell zby.out 0).trans rfl, (blk_cell zby.out 1).trans rfl, (blk_cell zby.out 2).trans rfl, (blk_cell zby.out 3).trans rfl⟩ (fun hHeld => ?_)
         clear hK K
         refine norm_ (a' := ?_) ?_ ?_
         rotate_left
         ·show Act.put _ (some 58) _ = _
          simp only [Act.put, List.setIfInBounds_toArray, List.set_cons_zero, List.set_cons_succ, i64_w, i32_w]
          rfl
         exact norm_ (by simp only [putAll, Act.put, List.setIfInBounds_toArray, List.set_cons_zero, List.set_cons_succ]) (hCont (v477, v480, v483) _ ⟨hHeld, (M.ro HO445), (M.ro HO448), (by (with_reducible repeat (first | apply Kd.R_alloc | apply Kd.R_drewN | apply Kd.R_drew)); exact Kd.R_mono HO471.out (fun _ hk => ⟨hk.2, hk.1⟩)), (M.ro HO481), (M.ro HO484), (M.bk zae), (M.bk za2), (M.bk zby), (M.up HB)⟩)
       ·skip
        refine Kd.R_lit_step Kd.string _ 9 ?hg (N := 61) ?hd (xs := ([t472] : List ByteArray)) (inner := [.string t472]) (ok := fun _ => True) (okp := fun _ => True) ?hr ?hp (fun _ hk => hk) trivial (Below.refl _ _) (Nat.le_refl _) (by simp) ?_; (case hd => rfl); (case hg => rfl); (case hr => first | (go_simp; done) | (go_simp; rfl)); (case hp => exact (Reps.one (show Kd.M Kd.string _ _ _ t472 [.string t472] from rfl) (Reps.none _ _)))
        intro v483 w60 ho61 hb hg_ hnew_
        clear hg_ hnew_
        (first | rw [← Ny482.out] at ho61 | (simp only [Int.reduceToNat] at ho61; rw [← Ny482.out] at ho61))
        replace HO445 := M.roB HO445 hb; replace HO448 := M.roB HO448 hb; have HO484 := Aside0.mk (Kd.R_lower (Kd.R_new' ho61 (Kd.R_lt (M.ro HO471))) (below_size (M.up HB))); replace HO471 := Aside0.mk (Kd.R_elder' (M.ro HO471) (Kd.R_base ho61) hb); replace zae := M.bkB zae hb; replace za2 := M.bkB za2 hb; replace zby := M.bkB zby hb; replace HB := M.upS HB hb
        clear hb ho61
        refine hK.out _ _ ⟨(blk_cell zby.out 0).trans rfl, (blk_cell zby.out 1).trans rfl, (blk_cell zby.out 2).trans rfl, (blk_cell zby.out 3).trans rfl⟩ (fun hHeld => ?_)
        clear hK K
        refine norm_ (a' := ?_) ?_ ?_
        rotate_left
        ·show Act.put _ (some 61) _ = _
         simp only [Act.put, List.setIfInBounds_toArray, List.set_cons_zero, List.set_cons_succ, i64_w, i32_w]
         rfl
        refine one_ (i := 0) (N := some 55) #[true, true, true, false, true, true, true, false, false, false] rfl rfl (one_of HT_.out (by kernel_rfl)) (by decide) (fun K hK => ?_)
        refine Kd.R_lit_step Kd.string _ 9 ?hg (N := 55) ?hd (xs := ([] : List ByteArray)) (inner := []) (ok := fun _ => True) (okp := fun _ => True) ?hr ?hp (fun _ hk => hk) trivial (Below.refl _ _) (Nat.le_refl _) (by simp) ?_; (case hd => rfl); (case hg => rfl); (case hr => first | (go_simp; done) | (go_simp; rfl)); (case hp => exact (Reps.none _ _))
        intro v477 w62 ho63 hb hg_ hnew_
        clear hg_ hnew_
        (first | rw [← Ny476.out] at ho63 | (simp only [Int.reduceToNat] at ho63; rw [← Ny476.out] at ho63))
        replace HO445 := M.roB HO445 hb; replace HO448 := M.roB HO448 hb; have HO478 := Aside0.mk (Kd.R_lower (Kd.R_new' (Kd.R_new' ho63 (Kd.R_lt (M.ro HO471))) (Kd.R_lt (M.ro HO484))) (below_size (M.up HB))); replace HO471 := Aside0.mk (Kd.R_elder' (M.ro HO471) (Kd.R_base ho63) hb); replace HO484 := Aside0.mk (Kd.R_elder' (M.ro HO484) (Kd.R_base ho63) hb); replace zae := M.bkB zae hb; replace za2 := M.bkB za2 hb; replace zby := M.bkB zby hb; replace HB := M.upS HB hb
        clear hb ho63
        refine hK.out _ _ ⟨(blk_cell zby.out 0).trans rfl, (blk_cell zby.out 1).trans rfl, (blk_cell zby.out 2).trans rfl, (blk_cell zby.out 3).trans rfl⟩ (fun hHeld => ?_)
        clear hK K
        refine norm_ (a' := ?_) ?_ ?_
        rotate_left
        ·show Act.put _ (some 55) _ = _
         simp only [Act.put, List.setIfInBounds_toArray, List.set_cons_zero, List.set_cons_succ, i64_w, i32_w]
         rfl
        refine one_ (i := 3) (N := some 58) #[true, true, true, true, true, true, true, false, false, false] rfl rfl (one_of HT_.out (by kernel_rfl)) (by decide) (fun K hK => ?_)
        refine Kd.R_append_rows_step Kd.string (w0 := w) w.heap.size (by rfl) (.tmp 55) (.tmp 57) 23 9 (.string ⟨#[]⟩) 16 rfl Tryd.underlying23 info9 rfl (by decide) (by omega) v477 y476 t469 _ _ _ (fun k_ => some k_ ≠ (.slice Ao57 t469.length co57 : Value).ownBlock ∧ some k_ ≠ (v483 : Value).ownBlock) (fun _ => False) rfl rfl ?aO ?aR (fun _ _ h => h) (fun _ h => h.elim) ?aF ?aB ?aS ?aL ?_
        (case aR => repeat (first | exact (Kd.R_reads' HO471.out).2.2 | (with_reducible refine Kd.C_alloc ?_ _) | (with_reducible refine Kd.C_drewN ?_ _) | (with_reducible refine Kd.C_drew ?_)))
        (case aB => exact (M.up HB))
        (case aF => exact (fun k_ hk => ⟨Kd.fresh' (Kd.R_lt (M.ro HO471)) k_ hk, Kd.fresh' (Kd.R_lt (M.ro HO484)) k_ hk⟩))
        (case aO => exact (by (with_reducible repeat (first | apply Kd.R_alloc | apply Kd.R_drewN | apply Kd.R_drew)); exact Kd.R_mono HO478.out (fun _ hk => ⟨hk.1.2, hk.2⟩)))
        (case aS => exact (below_size (M.up HB)))
        (case aL => have := LMc41.out; omega)
        intro v480 w64 ho hb hg hat
        rw [← Ny479.out] at ho
        replace HO445 := Aside0.mk (Kd.R_over' (M.ro HO445) (Kd.R_typed (M.ro HO478)) (by decide) hg); replace HO448 := Aside0.mk (Kd.R_over' (M.ro HO448) (Kd.R_typed (M.ro HO478)) (by decide) hg); replace zae := Aside0.mk (blk_grown (g := zad) (o := .cells #[.int .i64 t442, .slice Ao46 t443.length co46, .slice Ao47 t446.length co47] 39 (0, 0)) (M.bk zae) hg (Kd.R_ne HO478.out zae.out (by decide))); replace za2 := Aside0.mk (blk_grown (g := za1) (o := .cells #[.string t459, .string t460, .string t461, .string t462] 45 (0, 0)) (M.bk za2) hg (Kd.R_ne HO478.out za2.out (by decide))); replace HO471 := Aside0.mk (Kd.R_after (ok := (fun k_ => some k_ ≠ (v483 : Value).ownBlock)) (by (with_reducible repeat (first | apply Kd.R_alloc | apply Kd.R_drewN | apply Kd.R_drew)); exact Kd.R_mono HO471.out (fun _ hk => ⟨hk.1.2, hk.2⟩)) hg hat); replace zby := Aside0.mk (blk_grown (g := zbx) (o := .cells #[.int .i64 t468, .slice Ao57 t469.length co57, .string t472, .string t473] 49 (0, 0)) (M.bk zby) hg (Kd.R_ne HO478.out zby.out (by decide))); replace HO484 := Aside0.mk (Kd.R_after (ok := (fun k_ => some k_ ≠ (.slice Ao57 t469.length co57 : Value).ownBlock)) (by (with_reducible repeat (first | apply Kd.R_alloc | apply Kd.R_drewN | apply Kd.R_drew)); exact Kd.R_mono HO484.out (fun _ hk => ⟨hk.1.2, hk.2⟩)) hg hat); replace HB := Aside0.mk (hb); have HO481 := Aside0.mk (ho); clear HO478
        clear ho hb hg hat
        refine hK.out _ _ ⟨(blk_cell zby.out 0).trans rfl, (blk_cell zby.out 1).trans rfl, (blk_cell zby.out 2).trans rfl, (blk_cell zby.out 3).trans rfl⟩ (fun hHeld => ?_)
        clear hK K
        refine norm_ (a' := ?_) ?_ ?_
        rotate_left
        ·show Act.put _ (some 58) _ = _
         simp only [Act.put, List.setIfInBounds_toArray, List.set_cons_zero, List.set_cons_succ, i64_w, i32_w]
         rfl
        exact norm_ (by simp only [putAll, Act.put, List.setIfInBounds_toArray, List.set_cons_zero, List.set_cons_succ]) (hCont (v477, v480, v483) _ ⟨hHeld, (M.ro HO445), (M.ro HO448), (by (with_reducible repeat (first | apply Kd.R_alloc | apply Kd.R_drewN | apply Kd.R_drew)); exact Kd.R_mono HO471.out (fun _ hk => ⟨hk.2, hk.1⟩)), (M.ro HO481), (M.ro HO484), (M.bk zae), (M.bk za2), (M.bk zby), (M.up HB)⟩)
      rintro ⟨v477, v480, v483⟩ w65 ⟨hS_, h0_, h1_, h2_, h3_, h4_, h5_, h6_, h7_, h8_⟩
      have n0_ : Aside0 (Kd.R k43 43 w65 w.heap.size (fun _ => True) (.slice Ao46 t443.length co46) t443) := ⟨h0_⟩
      have n1_ : Aside0 (Kd.R (Kd.int .i64) 3 w65 w.heap.size (fun _ => True) (.slice Ao47 t446.length co47) t446) := ⟨h1_⟩
      have n2_ : Aside0 (Kd.R Kd.string 9 w65 w.heap.size (fun k_ => some k_ ≠ (v480 : Value).ownBlock ∧ some k_ ≠ (v483 : Value).ownBlock) (.slice Ao57 t469.length co57) t469) := ⟨h2_⟩
      have n3_ : Aside0 (Kd.R Kd.string 9 w65 w.heap.size (fun k_ => some k_ ≠ (.slice Ao57 t469.length co57 : Value).ownBlock ∧ some k_ ≠ (v483 : Value).ownBlock) v480 y479) := ⟨h3_⟩
      have n4_ : Aside0 (Kd.R Kd.string 9 w65 w.heap.size (fun k_ => some k_ ≠ (.slice Ao57 t469.length co57 : Value).ownBlock ∧ some k_ ≠ (v480 : Value).ownBlock) v483 y482) := ⟨h4_⟩
      have n5_ : Aside0 (w65.heap[zad]? = some (.cells #[.int .i64 t442, .slice Ao46 t443.length co46, .slice Ao47 t446.length co47] 39 (0, 0))) := ⟨h5_⟩
      have n6_ : Aside0 (w65.heap[za1]? = some (.cells #[.string t459, .string t460, .string t461, .string t462] 45 (0, 0))) := ⟨h6_⟩
      have n7_ : Aside0 (w65.heap[zbx]? = some (.cells #[.int .i64 t468, .slice Ao57 t469.length co57, .string t472, .string t473] 49 (0, 0))) := ⟨h7_⟩
      have n8_ : Aside0 (Below w.heap.size w w65) := ⟨h8_⟩
      clear HO445 HO448 HO471 zae za2 zby HB
      clear h0_ h1_ h2_ h3_ h4_ h5_ h6_ h7_ h8_
      have HO445 := n0_
      have HO448 := n1_
      have HO471 := n2_
      have HO481 := n3_
      have HO484 := n4_
      have zae := n5_
      have za2 := n6_
      have zby := n7_
      have HB := n8_
      clear n0_ n1_ n2_ n3_ n4_ n5_ n6_ n7_ n8_
      have hHeld : w65.cell? ⟨zbx, 0, none⟩ = some (.int .i64 t468) ∧ w65.cell? ⟨zbx, 1, none⟩ = some (.slice Ao57 t469.length co57) ∧ w65.cell? ⟨zbx, 2, none⟩ = some (.string t472) ∧ w65.cell? ⟨zbx, 3, none⟩ = some (.string t473) := hS_
      obtain ⟨Ao67, co67, eo67⟩ := Kd.R_slice HO484.out
      (first | subst eo67 | (injection eo67 with f1_ f2_ f3_; have f4_ := f1_.symm; have f5_ := f3_.symm; clear f1_ f2_ f3_; subst f4_; subst f5_))
      refine norm_ (a' := ?_) ?_ ?_
      rotate_left
      ·simp only [putAll, Act.put, List.setIfInBounds_toArray, List.set_cons_zero, List.set_cons_succ]
       rfl
      refine one_ (i := 7) (N := some 62) #[true, true, true, true, true, true, true, true, false, false] rfl rfl (one_of HT_.out (by kernel_rfl)) (by decide) (fun K hK => ?_)
      refine Kd.R_append_rows_step Kd.string (w0 := w) w.heap.size (by rfl) (.tmp 58) (.tmp 61) 23 9 (.string ⟨#[]⟩) 16 rfl Tryd.underlying23 info9 rfl (by decide) (by omega) v480 y479 y482 _ _ _ (fun k_ => some k_ ≠ (.slice Ao57 t469.length co57 : Value).ownBlock ∧ some k_ ≠ (.slice Ao67 y482.length co67 : Value).ownBlock) (fun _ => False) rfl rfl ?aO ?aR (fun _ _ h => h) (fun _ h => h.elim) ?aF ?aB ?aS ?aL ?_
      (case aR => repeat (first | exact (Kd.R_reads' HO484.out).2.2 | (with_reducible refine Kd.C_alloc ?_ _) | (with_reducible refine Kd.C_drewN ?_ _) | (with_reducible refine Kd.C_drew ?_)))
      (case aB => exact (M.up HB))
      (case aF => exact (fun k_ hk => ⟨Kd.fresh' (Kd.R_lt (M.ro HO471)) k_ hk, Kd.fresh' (Kd.R_lt (M.ro HO484)) k_ hk⟩))
      (case aO => exact (M.ro HO481))
      (case aS => exact (below_size (M.up HB)))
      (case aL => have := LMc42.out; omega)
      intro v486 w66 ho hb hg hat
      rw [← Ny485.out] at ho
      replace HO445 := Aside0.mk (Kd.R_over' (M.ro HO445) (Kd.R_typed (M.ro HO481)) (by decide) hg); replace HO448 := Aside0.mk (Kd.R_over' (M.ro HO448) (Kd.R_typed (M.ro HO481)) (by decide) hg); replace zae := Aside0.mk (blk_grown (g := zad) (o := .cells #[.int .i64 t442, .slice Ao46 t443.length co46, .slice Ao47 t446.length co47] 39 (0, 0)) (M.bk zae) hg (Kd.R_ne HO481.out zae.out (by decide))); replace za2 := Aside0.mk (blk_grown (g := za1) (o := .cells #[.string t459, .string t460, .string t461, .string t462] 45 (0, 0)) (M.bk za2) hg (Kd.R_ne HO481.out za2.out (by decide))); replace HO471 := Aside0.mk (Kd.R_after (ok := (fun k_ => some k_ ≠ (.slice Ao67 y482.length co67 : Value).ownBlock)) (by (with_reducible repeat (first | apply Kd.R_alloc | apply Kd.R_drewN | apply Kd.R_drew)); exact Kd.R_mono HO471.out (fun _ hk => ⟨hk.2, hk.1⟩)) hg hat); replace zby := Aside0.mk (blk_grown (g := zbx) (o := .cells #[.int .i64 t468, .slice Ao57 t469.length co57, .string t472, .string t473] 49 (0, 0)) (M.bk zby) hg (Kd.R_ne HO481.out zby.out (by decide))); replace HO484 := Aside0.mk (Kd.R_after (ok := (fun k_ => some k_ ≠ (.slice Ao57 t469.length co57 : Value).ownBlock)) (M.ro HO484) hg hat); replace HB := Aside0.mk (hb); have HO487 := Aside0.mk (ho); clear HO481
      clear ho hb hg hat
      refine hK.out _ _ ⟨(blk_cell zby.out 0).trans rfl, (blk_cell zby.out 1).trans rfl, (blk_cell zby.out 2).trans rfl, (blk_cell zby.out 3).trans rfl⟩ (fun hHeld => ?_)
      clear hK K
      refine norm_ (a' := ?_) ?_ ?_
      rotate_left
      ·show Act.put _ (some 62) _ = _
       simp only [Act.put, List.setIfInBounds_toArray, List.set_cons_zero, List.set_cons_succ, i64_w, i32_w]
       rfl
      refine M.pu 8 2 [9, 1] HT_ ?_
      refine M.pu 9 3 [10] HT_ ?_
      refine done_ (done_of HT_.out (by kernel_rfl)) ?_
      try go_wp2
      go_ret2
      exact ⟨_, M.eqe, by (with_reducible repeat (first | apply Kd.R_alloc | apply Kd.R_drewN | apply Kd.R_drew)); exact Kd.R_mono HO487.out (fun _ hk => trivial), M.up HB⟩
     ·exact M.nf c42 H
    ·exact M.nf c41 H
   ·replace c40 := Bool.eq_false_iff.mpr c40
    subst c40
    have H1 : (some (([] : List ByteArray), false)) = some (r1, r2) := by rw [if_neg (show ¬ (false = true) by decide)] at H; exact H
    clear H
    have H := H1
    clear H1
    simp only [Option.some.injEq, Prod.mk.injEq] at H
    obtain ⟨rfl, rfl⟩ := H
    go_enter Tryd.func6, Tryd.ntmps6
    go_wp2_with (first | ((with_reducible refine gate_callee (f := 15) rfl ?_); refine M.goes (some 13) Tryd.func15 #[.string a0] rfl ?_; (with_reducible refine (pleachref19_Take.calls a0 t442 t443 t446 false _ A2.out).mono ?_); rintro e w68 ⟨v444, v447, rfl, ho0, ho1, hb⟩; refine ⟨_, rfl, ?_⟩; have HO445 := Aside0.mk (Kd.R_lower ho0 (below_size (M.up HB))); have HO448 := Aside0.mk (Kd.R_lower ho1 (below_size (M.up HB))); replace HB := M.upS HB hb; (try clear hb); (try clear ho0); (try clear ho1)) | ((with_reducible refine gate_dst (N := 4) rfl ?_); refine M.bx 4 39 (#[.int .i64 0, .slice none 0 0, .slice none 0 0]) ?_; intro zad hg w69 hbox hb; replace HO445 := M.roB HO445 hb; replace HO448 := M.roB HO448 hb; have zae := Aside0.mk (hbox); have zaf := M.upG HB hg; have zag := M.upG HB hg; replace HB := M.upS HB hb; clear hb hbox hg; obtain ⟨zbR, zbS, zbT⟩ := M.bc3 (w := w69) (a := .int .i64 0) (b := .slice none 0 0) (c := .slice none 0 0) zae.out; obtain ⟨zbU, zbV, zbW⟩ := M.bf3 zae; obtain ⟨Ao71, co71, eo71⟩ := Kd.R_slice HO445.out; subst eo71; obtain ⟨Ao72, co72, eo72⟩ := Kd.R_slice HO448.out; subst eo72) | ((with_reducible refine gate_callee (f := 16) rfl ?_); refine M.goes (some 36) Tryd.func16 #[.string a0] rfl ?_; (with_reducible refine (pleachref32_Take.calls a0 t459 t460 t461 t462 false _ A26.out).mono ?_); rintro e w73 ⟨rfl, hb⟩; refine ⟨_, rfl, ?_⟩; replace HO445 := Aside0.mk (Kd.R_below (by (with_reducible repeat (first | apply Kd.R_alloc | apply Kd.R_drewN | apply Kd.R_drew)); exact (Kd.R_mono (Kd.R_far (p := ⟨zad, 2, none⟩) (Kd.R_far (p := ⟨zad, 1, none⟩) (Kd.R_far (p := ⟨zad, 0, none⟩) (Kd.R_types HO445.out zae.out (by decide)) (fun _ hk => hk.2) (.int .i64 t442)) (fun _ hk => hk.2) (.slice Ao71 t443.length co71)) (fun _ hk => hk.2) (.slice Ao72 t446.length co72)) (fun _ h_ => h_.1))) hb); replace HO448 := Aside0.mk (Kd.R_below (by (with_reducible repeat (first | apply Kd.R_alloc | apply Kd.R_drewN | apply Kd.R_drew)); exact (Kd.R_mono (Kd.R_far (p := ⟨zad, 2, none⟩) (Kd.R_far (p := ⟨zad, 1, none⟩) (Kd.R_far (p := ⟨zad, 0, none⟩) (Kd.R_types HO448.out zae.out (by decide)) (fun _ hk => hk.2) (.int .i64 t442)) (fun _ hk => hk.2) (.slice Ao71 t443.length co71)) (fun _ hk => hk.2) (.slice Ao72 t446.length co72)) (fun _ h_ => h_.1))) hb); replace zae := Aside0.mk (blk_below (g := zad) (o := .cells #[.int .i64 t442, .slice Ao71 t443.length co71, .slice Ao72 t446.length co72] 39 (0, 0)) (by refine M.fp (cs := #[.int .i64 t442, .slice Ao71 t443.length co71, .slice none 0 0]) ?_ 2; refine M.fp (cs := #[.int .i64 t442, .slice none 0 0, .slice none 0 0]) ?_ 1; refine M.fp (cs := #[.int .i64 0, .slice none 0 0, .slice none 0 0]) ?_ 0; exact M.bk zae) hb); replace HB := M.upS HB hb; (try clear hb)) | ((with_reducible refine gate_dst (N := 9) rfl ?_); refine M.bx 9 45 (#[.string (⟨#[]⟩ : ByteArray), .string (⟨#[]⟩ : ByteArray), .string (⟨#[]⟩ : ByteArray), .string (⟨#[]⟩ : ByteArray)]) ?_; intro za1 hg w74 hbox hb; replace HO445 := M.roB HO445 hb; replace HO448 := M.roB HO448 hb; have za2 := Aside0.mk (hbox); have za3 := M.upG HB hg; have za4 := M.upG HB hg; replace HB := M.upS HB hb; have za5 := M.bkL zae hg; have za6 := M.bkG zae hg; replace zae := M.bkB zae hb; clear hb hbox hg; have zbX := za6.out; have zbY := za5.out; have zbZ : w74.cell? ⟨za1, 0, none⟩ = some (.string (⟨#[]⟩ : ByteArray)) := (blk_cell za2.out 0).trans rfl; have zb0 : w74.cell? ⟨za1, 1, none⟩ = some (.string (⟨#[]⟩ : ByteArray)) := (blk_cell za2.out 1).trans rfl; have zb1 : w74.cell? ⟨za1, 2, none⟩ = some (.string (⟨#[]⟩ : ByteArray)) := (blk_cell za2.out 2).trans rfl; have zb2 : w74.cell? ⟨za1, 3, none⟩ = some (.string (⟨#[]⟩ : ByteArray)) := (blk_cell za2.out 3).trans rfl; have zb3 := blk_frozen za2.out 0; have zb4 := blk_frozen za2.out 1; have zb5 := blk_frozen za2.out 2; have zb6 := blk_frozen za2.out 3) | ((with_reducible refine gate_callee (f := 17) rfl ?_); refine M.goes (some 51) Tryd.func17 #[.string a0] rfl ?_; (with_reducible refine (pleachref35_Take.calls a0 t468 t469 t472 t473 false _ A39.out).mono ?_); rintro e w77 ⟨v470, rfl, ho0, hb⟩; refine ⟨_, rfl, ?_⟩; replace HO445 := Aside0.mk (Kd.R_below (by (with_reducible repeat (first | apply Kd.R_alloc | apply Kd.R_drewN | apply Kd.R_drew)); exact (Kd.R_mono (Kd.R_far (p := ⟨za1, 3, none⟩) (Kd.R_far (p := ⟨za1, 2, none⟩) (Kd.R_far (p := ⟨za1, 1, none⟩) (Kd.R_far (p := ⟨za1, 0, none⟩) (Kd.R_types HO445.out za2.out (by decide)) (fun _ hk => hk.2) (.string t459)) (fun _ hk => hk.2) (.string t460)) (fun _ hk => hk.2) (.string t461)) (fun _ hk => hk.2) (.string t462)) (fun _ h_ => h_.1))) hb); replace HO448 := Aside0.mk (Kd.R_below (by (with_reducible repeat (first | apply Kd.R_alloc | apply Kd.R_drewN | apply Kd.R_drew)); exact (Kd.R_mono (Kd.R_far (p := ⟨za1, 3, none⟩) (Kd.R_far (p := ⟨za1, 2, none⟩) (Kd.R_far (p := ⟨za1, 1, none⟩) (Kd.R_far (p := ⟨za1, 0, none⟩) (Kd.R_types HO448.out za2.out (by decide)) (fun _ hk => hk.2) (.string t459)) (fun _ hk => hk.2) (.string t460)) (fun _ hk => hk.2) (.string t461)) (fun _ hk => hk.2) (.string t462)) (fun _ h_ => h_.1))) hb); have HO471 := Aside0.mk (Kd.R_lower ho0 (below_size (M.up HB))); replace zae := Aside0.mk (blk_below (g := zad) (o := .cells #[.int .i64 t442, .slice Ao71 t443.length co71, .slice Ao72 t446.length co72] 39 (0, 0)) (by refine M.fr ?_ za5; refine M.fr ?_ za5; refine M.fr ?_ za5; refine M.fr ?_ za5; exact M.bk zae) hb); replace za2 := Aside0.mk (blk_below (g := za1) (o := .cells #[.string t459, .string t460, .string t461, .string t462] 45 (0, 0)) (by refine M.fp (cs := #[.string t459, .string t460, .string t461, .string (⟨#[]⟩ : ByteArray)]) ?_ 3; refine M.fp (cs := #[.string t459, .string t460, .string (⟨#[]⟩ : ByteArray), .string (⟨#[]⟩ : ByteArray)]) ?_ 2; refine M.fp (cs := #[.string t459, .string (⟨#[]⟩ : ByteArray), .string (⟨#[]⟩ : ByteArray), .string (⟨#[]⟩ : ByteArray)]) ?_ 1; refine M.fp (cs := #[.string (⟨#[]⟩ : ByteArray), .string (⟨#[]⟩ : ByteArray), .string (⟨#[]⟩ : ByteArray), .string (⟨#[]⟩ : ByteArray)]) ?_ 0; exact M.bk za2) hb); replace HB := M.upS HB hb; (try clear hb); (try clear ho0)) | ((with_reducible refine gate_dst (N := 10) rfl ?_); refine M.bx 10 49 (#[.int .i64 0, .slice none 0 0, .string (⟨#[]⟩ : ByteArray), .string (⟨#[]⟩ : ByteArray)]) ?_; intro zbx hg w78 hbox hb; replace HO445 := M.roB HO445 hb; replace HO448 := M.roB HO448 hb; replace HO471 := M.roB HO471 hb; have zby := Aside0.mk (hbox); have zbz := M.upG HB hg; have zbA := M.upG HB hg; replace HB := M.upS HB hb; have zbB := M.bkL zae hg; have zbC := M.bkG zae hg; replace zae := M.bkB zae hb; have zbD := M.bkL za2 hg; have zbE := M.bkG za2 hg; replace za2 := M.bkB za2 hb; clear hb hbox hg; have zb7 := zbC.out; have zb8 := zbB.out; have zb9 := zbE.out; have zca := zbD.out; have zcb : w78.cell? ⟨zbx, 0, none⟩ = some (.int .i64 0) := (blk_cell zby.out 0).trans rfl; have zcc : w78.cell? ⟨zbx, 1, none⟩ = some (.slice none 0 0) := (blk_cell zby.out 1).trans rfl; have zcd : w78.cell? ⟨zbx, 2, none⟩ = some (.string (⟨#[]⟩ : ByteArray)) := (blk_cell zby.out 2).trans rfl; have zce : w78.cell? ⟨zbx, 3, none⟩ = some (.string (⟨#[]⟩ : ByteArray)) := (blk_cell zby.out 3).trans rfl; have zcf := blk_frozen zby.out 0; have zcg := blk_frozen zby.out 1; have zch := blk_frozen zby.out 2; have zci := blk_frozen zby.out 3; obtain ⟨Ao82, co82, eo82⟩ := Kd.R_slice HO471.out; subst eo82))
    go_ret2
    exact ⟨_, M.eqe, M.nl, M.up HB⟩
end Go.Proofs.YtkjbhgolillidaaDoor.EMarkNames
