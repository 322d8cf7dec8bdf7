-- Laid by this session's own program (wip/tools/fold.py): this session's texts, cut to what the claim names and put together; Lean checks it.
import Derived.Test.YtkjbhgolillidaaDoorVMarkNames1
import Derived.Test.YtkjbhgolillidaaDoorVMarkNames2
import Derived.Test.YtkjbhgolillidaaDoorVMarkNames3
import Derived.Test.YtkjbhgolillidaaDoorVMarkNames4
import Derived.Test.YtkjbhgolillidaaDoorXMarkNames1
namespace Go.Proofs.YtkjbhgolillidaaDoor.EMarkNames
open Go.RowKit Go.Proofs.YtkjbhgolillidaaDoorW.PrintWords Go.Proofs.YtkjbhgolillidaaDoorW.PrintLast Go.Proofs.YtkjbhgolillidaaDoorW.PrintMore
attribute [local go_sem] M.run_leq M.run_gtr M.run_geq max2_int min2_int max_two min_two max_three min_three max_four min_four
set_option linter.unusedVariables false
set_option linter.unusedSimpArgs false
mutual
def chunk_Take_p.j0 : Nat → ByteArray → Int → Int → Bool → Int → Option (Int × (List (S43)) × List Int × Int)
  | 0, _, _, _, _, _ => none
  | k + 1, zaa, zab, zac, zad, zae => (scan_Scan_Num.f zaa zab zac zad 8).bind fun bt158 => (chunk_Take_p.l0 k bt158.1 0 bt158.2.1 bt158.2.2.1 bt158.2.2.2.1 bt158.2.2.2.2 zae ([] : List (S43)) ([] : List Int))
def chunk_Take_p.l0 : Nat → Int → Int → ByteArray → Int → Int → Bool → Int → List (S43) → List Int → Option (Int × (List (S43)) × List Int × Int)
  | 0, _, _, _, _, _, _, _, _, _ => none
  | k + 1, x24, x25, zaa, zab, zac, zad, zae, zaf, zag => if x25 < x24 then ((scan_Scan_Text.f zaa zab zac zad 64).bind fun bt163 => (if zae > 0 then ((scan_Scan_Fix.f bt163.2.1 bt163.2.2.1 bt163.2.2.2.1 bt163.2.2.2.2 32).bind fun bt169 => ((scan_Scan_Num.f bt169.2.1 bt169.2.2.1 bt169.2.2.2.1 bt169.2.2.2.2 2147483648).bind fun bt174 => (if zag.length < 17592186044416 then (if zaf.length < 4398046511104 then (chunk_Take_p.l0 k x24 (wrap64 (x25 + 1)) bt174.2.1 bt174.2.2.1 bt174.2.2.2.1 bt174.2.2.2.2 zae (zaf ++ [(⟨bt163.1, bt169.1⟩ : S43)]) (zag ++ [bt174.1])) else (none)) else (none)))) else ((scan_Scan_Text.f bt163.2.1 bt163.2.2.1 bt163.2.2.2.1 bt163.2.2.2.2 2048).bind fun bt185 => (if zaf.length < 4398046511104 then (chunk_Take_p.l0 k x24 (wrap64 (x25 + 1)) bt185.2.1 bt185.2.2.1 bt185.2.2.2.1 bt185.2.2.2.2 zae (zaf ++ [(⟨bt163.1, bt185.1⟩ : S43)]) zag) else (none))))) else ((scan_Scan_End.f zaa zab zac zad).bind fun bt193 => (if bt193.1 = 0 then ((chunk_Check.f zae zaf zag).bind fun t198 => (if t198 = 0 then (some (zae, zaf, zag, 0)) else (some (0, ([] : List (S43)), ([] : List Int), 3)))) else (some (0, ([] : List (S43)), ([] : List Int), 3))))
end
def chunk_Take_p.f (k : Nat) (a0 : ByteArray) : Option (Int × (List (S43)) × List Int × Int) := (scan_New.f a0).bind fun bt142 => ((scan_Scan_Byte.f bt142.1 bt142.2.1 bt142.2.2.1 bt142.2.2.2).bind fun bt148 => (if bt148.1 = 76 then (chunk_Take_p.j0 k bt148.2.1 bt148.2.2.1 bt148.2.2.2.1 bt148.2.2.2.2 0) else (if bt148.1 = 73 then ((scan_Scan_Num.f bt148.2.1 bt148.2.2.1 bt148.2.2.2.1 bt148.2.2.2.2 40).bind fun bt153 => (if bt153.1 = 0 then (some (0, ([] : List (S43)), ([] : List Int), 3)) else (chunk_Take_p.j0 k bt153.2.1 bt153.2.2.1 bt153.2.2.2.1 bt153.2.2.2.2 bt153.1))) else (some (0, ([] : List (S43)), ([] : List Int), 3)))))
theorem chunk_Take_p.mono_l : ∀ k, (∀ y0 y1 y2 y3 y4, LeO (chunk_Take_p.j0 k y0 y1 y2 y3 y4) (chunk_Take_p.j0 (k + 1) y0 y1 y2 y3 y4)) ∧ (∀ y0 y1 y2 y3 y4 y5 y6 y7 y8, LeO (chunk_Take_p.l0 k y0 y1 y2 y3 y4 y5 y6 y7 y8) (chunk_Take_p.l0 (k + 1) y0 y1 y2 y3 y4 y5 y6 y7 y8))
  | 0 => ⟨fun _ _ _ _ _ r h => by simp [chunk_Take_p.j0] at h, fun _ _ _ _ _ _ _ _ _ r h => by simp [chunk_Take_p.l0] at h⟩
  | k + 1 => by
    obtain ⟨ih0, ih1⟩ := chunk_Take_p.mono_l k
    refine ⟨?_, ?_⟩
    · intro y0 y1 y2 y3 y4
      unfold chunk_Take_p.j0
      repeat' first
      | (with_reducible exact ih0 _ _ _ _ _)
      | (with_reducible exact ih1 _ _ _ _ _ _ _ _ _)
      | (with_reducible exact LeO.refl _)
      | (with_reducible exact LeO.none _)
      | (with_reducible refine LeO.ite ?_ ?_)
      | (with_reducible refine LeO.bind ?_ (fun _ => ?_))
      | exact ih0 _ _ _ _ _
      | exact ih1 _ _ _ _ _ _ _ _ _
      | exact LeO.none _
      | refine LeO.ite ?_ ?_
      | refine LeO.bind ?_ (fun _ => ?_)
    · intro y0 y1 y2 y3 y4 y5 y6 y7 y8
      unfold chunk_Take_p.l0
      repeat' first
      | (with_reducible exact ih0 _ _ _ _ _)
      | (with_reducible exact ih1 _ _ _ _ _ _ _ _ _)
      | (with_reducible exact LeO.refl _)
      | (with_reducible exact LeO.none _)
      | (with_reducible refine LeO.ite ?_ ?_)
      | (with_reducible refine LeO.bind ?_ (fun _ => ?_))
      | exact ih0 _ _ _ _ _
      | exact ih1 _ _ _ _ _ _ _ _ _
      | exact LeO.none _
      | refine LeO.ite ?_ ?_
      | refine LeO.bind ?_ (fun _ => ?_)
theorem chunk_Take_p.mono : ∀ a0 k, LeO (chunk_Take_p.f k a0) (chunk_Take_p.f (k + 1) a0) := by
  intro a0 k
  obtain ⟨ih0, ih1⟩ := chunk_Take_p.mono_l k
  unfold chunk_Take_p.f
  repeat' first
      | (with_reducible exact ih0 _ _ _ _ _)
      | (with_reducible exact ih1 _ _ _ _ _ _ _ _ _)
      | (with_reducible exact LeO.refl _)
      | (with_reducible exact LeO.none _)
      | (with_reducible refine LeO.ite ?_ ?_)
      | (with_reducible refine LeO.bind ?_ (fun _ => ?_))
      | exact ih0 _ _ _ _ _
      | exact ih1 _ _ _ _ _ _ _ _ _
      | exact LeO.none _
      | refine LeO.ite ?_ ?_
      | refine LeO.bind ?_ (fun _ => ?_)
def chunk_Take_p.T15 : Bool × List (List Nat × List Nat) := (true, [([], []), ([0], [0]), ([], []), ([2], [2]), ([3], [3]), ([1, 4, 3], [1, 4]), ([0, 1, 2, 3, 4, 5], []), ([6, 5, 5, 0, 1, 2, 3, 4, 5], [5, 6])])
def chunk_Take_p.B15 : List Nat := [0, 1, 0, 4, 12, 31, 63, 127]
theorem chunk_Take_p.tab15 : rtab .any (opsOf Tryd.f11 15) = chunk_Take_p.T15 := by kernel_rfl
theorem chunk_Take_p.bits15 : waitsOk chunk_Take_p.T15.2 chunk_Take_p.B15 = true := by kernel_rfl
set_option maxHeartbeats 8000000 in
set_option maxRecDepth 100000 in
theorem chunk_Take_p.calls (k : Nat) (a0 : ByteArray) (r1 : Int) (r2 : List (S43)) (r3 : List Int) (r4 : Int) (w : World) (h : chunk_Take_p.f k a0 = some (r1, r2, r3, r4)) :
    Calls Tryd.prog 11 #[.string a0] w fun e w' => ∃ v1_ v2_ : Value, e = .returned (.tuple #[.agg #[.int .i64 r1, v1_, v2_], .int .i64 r4]) ∧ Kd.R k43 43 w' w.heap.size (fun _ => True) v1_ r2 ∧ Kd.R (Kd.int .i64) 3 w' w.heap.size (fun _ => True) v2_ r3 ∧ Below w.heap.size w w' := by
 have hu39 := Tryd.underlying39
 have hu43 := Tryd.underlying43
 have HB := Aside0.mk (Below.refl w.heap.size w)
 have H : ((scan_New.f a0).bind fun bt142 => ((scan_Scan_Byte.f bt142.1 bt142.2.1 bt142.2.2.1 bt142.2.2.2).bind fun bt148 => (if bt148.1 = 76 then (chunk_Take_p.j0 k bt148.2.1 bt148.2.2.1 bt148.2.2.2.1 bt148.2.2.2.2 0) else (if bt148.1 = 73 then ((scan_Scan_Num.f bt148.2.1 bt148.2.2.1 bt148.2.2.2.1 bt148.2.2.2.2 40).bind fun bt153 => (if bt153.1 = 0 then (some (0, ([] : List (S43)), ([] : List Int), 3)) else (chunk_Take_p.j0 k bt153.2.1 bt153.2.2.1 bt153.2.2.2.1 bt153.2.2.2.2 bt153.1))) else (some (0, ([] : List (S43)), ([] : List Int), 3)))))) = some (r1, r2, r3, r4) := h
 clear h
 replace H := Option.bind_eq_some_iff.mp H
 obtain ⟨⟨t142, t143, t144, t145⟩, A20, H⟩ := H
 replace H : ((scan_Scan_Byte.f t142 t143 t144 t145).bind fun bt148 => (if bt148.1 = 76 then (chunk_Take_p.j0 k bt148.2.1 bt148.2.2.1 bt148.2.2.2.1 bt148.2.2.2.2 0) else (if bt148.1 = 73 then ((scan_Scan_Num.f bt148.2.1 bt148.2.2.1 bt148.2.2.2.1 bt148.2.2.2.2 40).bind fun bt153 => (if bt153.1 = 0 then (some (0, ([] : List (S43)), ([] : List Int), 3)) else (chunk_Take_p.j0 k bt153.2.1 bt153.2.2.1 bt153.2.2.2.1 bt153.2.2.2.2 bt153.1))) else (some (0, ([] : List (S43)), ([] : List Int), 3))))) = some (r1, r2, r3, r4) := H
 have A2 := Aside0.mk A20
 clear A20
 replace H := Option.bind_eq_some_iff.mp H
 obtain ⟨⟨t148, t149, t150, t151, t152⟩, A30, H⟩ := H
 replace H : (if t148 = 76 then (chunk_Take_p.j0 k t149 t150 t151 t152 0) else (if t148 = 73 then ((scan_Scan_Num.f t149 t150 t151 t152 40).bind fun bt153 => (if bt153.1 = 0 then (some (0, ([] : List (S43)), ([] : List Int), 3)) else (chunk_Take_p.j0 k bt153.2.1 bt153.2.2.1 bt153.2.2.2.1 bt153.2.2.2.2 bt153.1))) else (some (0, ([] : List (S43)), ([] : List Int), 3)))) = some (r1, r2, r3, r4) := H
 have A3 := Aside0.mk A30
 clear A30
 have HC4 := Aside0.mk H
 clear H
 go_enter Tryd.func11, Tryd.ntmps11
 go_upto_block 0 with (first | ((with_reducible refine gate_dst (N := 2) rfl ?_); refine M.bx 2 39 (#[.int .i64 0, .slice none 0 0, .slice none 0 0]) ?_; intro zah hg w5 hbox hb; have zai := Aside0.mk (hbox); have zaj := M.upG HB hg; have zak := M.upG HB hg; replace HB := M.upS HB hb; clear hb hbox hg) | ((with_reducible refine gate_callee (f := 23) rfl ?_); refine M.goes (some 8) Tryd.func23 #[.string a0] rfl ?_; (with_reducible refine (scan_New.calls a0 t142 t143 t144 t145 w _ ?side1 A2.out).mono ?_); (case side1 => repeat (first | (with_reducible first | exact HB.out | apply below_alloc | apply pw_below_drewN | apply below_drew1 | refine below_set ?_ zak.out) | exact HB.out)); rintro e w6 ⟨g146, rfl, hi, hb, hb2⟩; refine ⟨_, rfl, ?_⟩; replace HB := Aside0.mk (hb); have HI146 := Aside0.mk (hi); have zal := Aside0.mk (IsS95.ne_blk hi (blk_below (g := zah) (o := .cells #[.int .i64 0, .slice none 0 0, .slice none 0 0] 39 (0, 0)) (M.bk zai) hb2) (by decide)); have zam := Aside0.mk (Ne.symm (IsS95.ne_blk hi (blk_below (g := zah) (o := .cells #[.int .i64 0, .slice none 0 0, .slice none 0 0] 39 (0, 0)) (M.bk zai) hb2) (by decide))); replace zai := M.bkB zai hb2; (try clear hb); (try clear hb2); (try clear hi)) | ((with_reducible refine gate_dst (N := 5) rfl ?_); refine M.bx 5 39 (#[.int .i64 0, .slice none 0 0, .slice none 0 0]) ?_; intro zan hg w7 hbox hb; have zao := Aside0.mk (hbox); have zap := Aside0.mk ((by rw [hg]; exact (below_size (by repeat (first | (with_reducible first | exact HB.out | apply below_alloc | apply pw_below_drewN | apply below_drew1 | refine below_set ?_ (IsS95.ge HI146.out) | refine below_set ?_ zak.out) | exact HB.out))) : w.heap.size ≤ zan)); have zaq := Aside0.mk ((by rw [hg]; exact (below_size (by repeat (first | (with_reducible first | exact HB.out | apply below_alloc | apply pw_below_drewN | apply below_drew1 | refine below_set ?_ (IsS95.ge HI146.out) | refine below_set ?_ zak.out) | exact HB.out))) : w.heap.size ≤ zan)); replace HB := Aside0.mk (below_step (by repeat (first | (with_reducible first | exact HB.out | apply below_alloc | apply pw_below_drewN | apply below_drew1 | refine below_set ?_ (IsS95.ge HI146.out) | refine below_set ?_ zak.out) | exact HB.out)) hb); have zar := M.bkL zai hg; have zas := M.bkG zai hg; replace zai := M.bkB zai hb; have zat := Aside0.mk ((by rw [hg]; exact Nat.ne_of_lt (IsS95.lt (show IsS95 w _ g146 t142 t143 t144 t145 from by repeat (first | (with_reducible first | exact HI146.out | apply IsS95.alloc | apply IsS95.drewN | apply IsS95.drew | apply IsS95.set_0 | apply IsS95.set_1 | apply IsS95.set_2 | apply IsS95.set_3 | refine IsS95.far ?_ zal.out _) | exact HI146.out))) : g146 ≠ zan)); have zau := Aside0.mk ((by rw [hg]; exact Nat.ne_of_gt (IsS95.lt (show IsS95 w _ g146 t142 t143 t144 t145 from by repeat (first | (with_reducible first | exact HI146.out | apply IsS95.alloc | apply IsS95.drewN | apply IsS95.drew | apply IsS95.set_0 | apply IsS95.set_1 | apply IsS95.set_2 | apply IsS95.set_3 | refine IsS95.far ?_ zal.out _) | exact HI146.out))) : zan ≠ g146)); replace HI146 := Aside0.mk (IsS95.below (by repeat (first | (with_reducible first | exact HI146.out | apply IsS95.alloc | apply IsS95.drewN | apply IsS95.drew | apply IsS95.set_0 | apply IsS95.set_1 | apply IsS95.set_2 | apply IsS95.set_3 | refine IsS95.far ?_ zal.out _) | exact HI146.out)) hb); clear hb hbox hg) | ((with_reducible refine gate_callee (f := 24) rfl ?_); refine M.goes (some 10) Tryd.func24 #[.pointer (some ⟨g146, 0, none⟩)] rfl ?_; (with_reducible refine (scan_Scan_Byte.calls g146 t142 t143 t144 t145 t148 t149 t150 t151 t152 w _ ?side1 ?side2 A3.out).mono ?_); (case side1 => repeat (first | (with_reducible first | exact HI146.out | apply IsS95.alloc | apply IsS95.drewN | apply IsS95.drew | apply IsS95.set_0 | apply IsS95.set_1 | apply IsS95.set_2 | apply IsS95.set_3 | refine IsS95.far ?_ zal.out _ | refine IsS95.far ?_ zat.out _) | exact HI146.out)); (case side2 => repeat (first | (with_reducible first | exact HB.out | apply below_alloc | apply pw_below_drewN | apply below_drew1 | refine below_set ?_ (IsS95.ge HI146.out) | refine below_set ?_ zak.out | refine below_set ?_ zaq.out) | exact HB.out)); rintro e w8 ⟨rfl, hi, hb, hk⟩; refine ⟨_, rfl, ?_⟩; replace zai := Aside0.mk (KeepBut.blk hk (g' := zah) (o := .cells #[.int .i64 0, .slice none 0 0, .slice none 0 0] 39 (0, 0)) (M.bk zai) zam.out (by simp)); replace zao := Aside0.mk (KeepBut.blk hk (g' := zan) (o := .cells #[.int .i64 0, .slice none 0 0, .slice none 0 0] 39 (0, 0)) (M.bk zao) zau.out (by simp)); replace HB := Aside0.mk (hb); replace HI146 := Aside0.mk (hi); (try clear hb); (try clear hk); (try clear hi)))
 (try simp only [Act.put, List.setIfInBounds_toArray, List.set_cons_zero, List.set_cons_succ])
 go_cut [] (fun wc => ∃ (kq : Nat) (zav : Int) (zaw : ByteArray) (zax : Int) (zay : Int) (zaz : Bool) (zaA : Int), Aside0 (chunk_Take_p.j0 kq zaw zax zay zaz zaA = some (r1, r2, r3, r4)) ∧ Aside0 (kq ≤ k) ∧ Aside0 (wc.heap[zah]? = some (.cells #[.int .i64 zav, (.slice none 0 0), (.slice none 0 0)] 39 (0, 0))) ∧ Aside0 (wc.heap[zan]? = some (.cells #[.int .i64 zaA, (.slice none 0 0), (.slice none 0 0)] 39 (0, 0))) ∧ Aside0 (IsS95 w wc g146 zaw zax zay zaz) ∧ Aside0 (Below w.heap.size w wc))
 case first =>
  have H := HC4.out
  clear HC4
  by_cases c9 : t148 = 76
  ·rw [if_pos c9] at H
   have c9b0 : (t148 == 76) = true := beq_iff_eq.mpr c9
   have c9b1 : (t148 != 76) = false := bne_eq_false_iff_eq.mpr c9
   clear c9
   (first | rw [c9b0] | (simp only [i64_w, i32_w]; rw [c9b0]) | skip)
   have H' := Aside0.mk H
   clear H
   go_wp2
   go_meet
   case rel => exact ⟨_, (0), (t149), (t150), (t151), (t152), (0), H', ⟨by first | omega | exact Nat.le_refl _⟩, ⟨M.bk zai⟩, ⟨M.bk zao⟩, ⟨by repeat (first | (with_reducible first | exact HI146.out | apply IsS95.alloc | apply IsS95.drewN | apply IsS95.drew | apply IsS95.set_0 | apply IsS95.set_1 | apply IsS95.set_2 | apply IsS95.set_3 | refine IsS95.far ?_ zal.out _ | refine IsS95.far ?_ zat.out _) | exact HI146.out)⟩, ⟨by repeat (first | (with_reducible first | exact HB.out | apply below_alloc | apply pw_below_drewN | apply below_drew1 | refine below_set ?_ (IsS95.ge HI146.out) | refine below_set ?_ zak.out | refine below_set ?_ zaq.out) | exact HB.out)⟩⟩
  ·rw [if_neg c9] at H
   have c9b0 : (t148 == 76) = false := beq_eq_false_iff_ne.mpr c9
   have c9b1 : (t148 != 76) = true := bne_iff_ne.mpr c9
   (first | rw [c9b0] | (simp only [i64_w, i32_w]; rw [c9b0]) | skip)
   by_cases c10 : t148 = 73
   ·rw [if_pos c10] at H
    have c10b0 : (t148 == 73) = true := beq_iff_eq.mpr c10
    have c10b1 : (t148 != 73) = false := bne_eq_false_iff_eq.mpr c10
    clear c10
    replace H := Option.bind_eq_some_iff.mp H
    obtain ⟨⟨t153, t154, t155, t156, t157⟩, A110, H⟩ := H
    replace H : (if t153 = 0 then (some (0, ([] : List (S43)), ([] : List Int), 3)) else (chunk_Take_p.j0 k t154 t155 t156 t157 t153)) = some (r1, r2, r3, r4) := H
    have A11 := Aside0.mk A110
    clear A110
    by_cases c12 : t153 = 0
    ·rw [if_pos c12] at H
     have c12b0 : (t153 == 0) = true := beq_iff_eq.mpr c12
     have c12b1 : (t153 != 0) = false := bne_eq_false_iff_eq.mpr c12
     clear c12
     simp only [Option.some.injEq, Prod.mk.injEq] at H
     obtain ⟨rfl, rfl, rfl, rfl⟩ := H
     go_wp2_with (first | ((with_reducible refine gate_callee (f := 25) rfl ?_); refine M.goes (some 17) Tryd.func25 #[.pointer (some ⟨g146, 0, none⟩), .int .i64 40] rfl ?_; (with_reducible refine (scan_Scan_Num.calls g146 t149 t150 t151 t152 40 t153 t154 t155 t156 t157 w _ ?side1 ?side2 A11.out).mono ?_); (case side1 => repeat (first | (with_reducible first | exact HI146.out | apply IsS95.alloc | apply IsS95.drewN | apply IsS95.drew | apply IsS95.set_0 | apply IsS95.set_1 | apply IsS95.set_2 | apply IsS95.set_3 | refine IsS95.far ?_ zal.out _ | refine IsS95.far ?_ zat.out _) | exact HI146.out)); (case side2 => repeat (first | (with_reducible first | exact HB.out | apply below_alloc | apply pw_below_drewN | apply below_drew1 | refine below_set ?_ (IsS95.ge HI146.out) | refine below_set ?_ zak.out | refine below_set ?_ zaq.out) | exact HB.out)); rintro e w13 ⟨rfl, hi, hb, hk⟩; refine ⟨_, rfl, ?_⟩; replace zai := Aside0.mk (KeepBut.blk hk (g' := zah) (o := .cells #[.int .i64 0, .slice none 0 0, .slice none 0 0] 39 (0, 0)) (M.bk zai) zam.out (by simp)); replace zao := Aside0.mk (KeepBut.blk hk (g' := zan) (o := .cells #[.int .i64 0, .slice none 0 0, .slice none 0 0] 39 (0, 0)) (M.bk zao) zau.out (by simp)); replace HB := Aside0.mk (hb); replace HI146 := Aside0.mk (hi); (try clear hb); (try clear hk); (try clear hi); have zaB := zas.out; have zaC := zar.out; have zaD := zau.out; have zaE := zat.out; obtain ⟨zaF, zaG, zaH⟩ := M.bc3 (w := w13) (a := .int .i64 0) (b := .slice none 0 0) (c := .slice none 0 0) zao.out; obtain ⟨zaI, zaJ, zaK⟩ := M.bf3 zao; have zaL := zam.out; have zaM := zal.out; obtain ⟨zaN, zaO, zaP⟩ := M.bc3 (w := w13) (a := .int .i64 0) (b := .slice none 0 0) (c := .slice none 0 0) zai.out; obtain ⟨zaQ, zaR, zaS⟩ := M.bf3 zai))
     refine bodyPost_ret (results_ct rfl _ _ zah 39 #[.int .i64 0, .slice none 0 0, .slice none 0 0] (0, 0) _ rfl (by refine M.fp (cs := #[.int .i64 0, .slice none 0 0, .slice none 0 0]) ?_ 2; refine M.fp (cs := #[.int .i64 0, .slice none 0 0, .slice none 0 0]) ?_ 1; refine M.fp (cs := #[.int .i64 0, .slice none 0 0, .slice none 0 0]) ?_ 0; refine M.fr ?_ zar; exact M.bk zai) Tryd.underlying39 rfl (by kernel_rfl)) rfl ?_
     exact ⟨_, _, M.eqe, M.nl, M.nl, by repeat (first | (with_reducible first | exact HB.out | apply below_alloc | apply pw_below_drewN | apply below_drew1 | refine below_set ?_ (IsS95.ge HI146.out) | refine below_set ?_ zak.out | refine below_set ?_ zaq.out) | exact HB.out)⟩
    ·rw [if_neg c12] at H
     have c12b0 : (t153 == 0) = false := beq_eq_false_iff_ne.mpr c12
     have c12b1 : (t153 != 0) = true := bne_iff_ne.mpr c12
     have H' := Aside0.mk H
     clear H
     go_wp2_with (first | ((with_reducible refine gate_callee (f := 25) rfl ?_); refine M.goes (some 17) Tryd.func25 #[.pointer (some ⟨g146, 0, none⟩), .int .i64 40] rfl ?_; (with_reducible refine (scan_Scan_Num.calls g146 t149 t150 t151 t152 40 t153 t154 t155 t156 t157 w _ ?side1 ?side2 A11.out).mono ?_); (case side1 => repeat (first | (with_reducible first | exact HI146.out | apply IsS95.alloc | apply IsS95.drewN | apply IsS95.drew | apply IsS95.set_0 | apply IsS95.set_1 | apply IsS95.set_2 | apply IsS95.set_3 | refine IsS95.far ?_ zal.out _ | refine IsS95.far ?_ zat.out _) | exact HI146.out)); (case side2 => repeat (first | (with_reducible first | exact HB.out | apply below_alloc | apply pw_below_drewN | apply below_drew1 | refine below_set ?_ (IsS95.ge HI146.out) | refine below_set ?_ zak.out | refine below_set ?_ zaq.out) | exact HB.out)); rintro e w19 ⟨rfl, hi, hb, hk⟩; refine ⟨_, rfl, ?_⟩; replace zai := Aside0.mk (KeepBut.blk hk (g' := zah) (o := .cells #[.int .i64 0, .slice none 0 0, .slice none 0 0] 39 (0, 0)) (M.bk zai) zam.out (by simp)); replace zao := Aside0.mk (KeepBut.blk hk (g' := zan) (o := .cells #[.int .i64 0, .slice none 0 0, .slice none 0 0] 39 (0, 0)) (M.bk zao) zau.out (by simp)); replace HB := Aside0.mk (hb); replace HI146 := Aside0.mk (hi); (try clear hb); (try clear hk); (try clear hi); have zaT := zas.out; have zaU := zar.out; have zaV := zau.out; have zaW := zat.out; obtain ⟨zaX, zaY, zaZ⟩ := M.bc3 (w := w19) (a := .int .i64 0) (b := .slice none 0 0) (c := .slice none 0 0) zao.out; obtain ⟨za0, za1, za2⟩ := M.bf3 zao))
     go_meet
     case rel => exact ⟨_, (0), (t154), (t155), (t156), (t157), (t153), H', ⟨by first | omega | exact Nat.le_refl _⟩, ⟨by refine M.fr ?_ zar; exact M.bk zai⟩, ⟨by refine M.fp (cs := #[.int .i64 0, .slice none 0 0, .slice none 0 0]) ?_ 0; exact M.bk zao⟩, ⟨by repeat (first | (with_reducible first | exact HI146.out | apply IsS95.alloc | apply IsS95.drewN | apply IsS95.drew | apply IsS95.set_0 | apply IsS95.set_1 | apply IsS95.set_2 | apply IsS95.set_3 | refine IsS95.far ?_ zal.out _ | refine IsS95.far ?_ zat.out _) | exact HI146.out)⟩, ⟨by repeat (first | (with_reducible first | exact HB.out | apply below_alloc | apply pw_below_drewN | apply below_drew1 | refine below_set ?_ (IsS95.ge HI146.out) | refine below_set ?_ zak.out | refine below_set ?_ zaq.out) | exact HB.out)⟩⟩
   ·rw [if_neg c10] at H
    have c10b0 : (t148 == 73) = false := beq_eq_false_iff_ne.mpr c10
    have c10b1 : (t148 != 73) = true := bne_iff_ne.mpr c10
    simp only [Option.some.injEq, Prod.mk.injEq] at H
    obtain ⟨rfl, rfl, rfl, rfl⟩ := H
    have za3 := zar.out
    have za4 := zas.out
    have za5 := zam.out
    have za6 := zal.out
    obtain ⟨za7, za8, za9⟩ := M.bc3 (w := w8) (a := .int .i64 0) (b := .slice none 0 0) (c := .slice none 0 0) zai.out
    obtain ⟨zba, zbb, zbc⟩ := M.bf3 zai
    go_wp2
    refine bodyPost_ret (results_ct rfl _ _ zah 39 #[.int .i64 0, .slice none 0 0, .slice none 0 0] (0, 0) _ rfl (by refine M.fp (cs := #[.int .i64 0, .slice none 0 0, .slice none 0 0]) ?_ 2; refine M.fp (cs := #[.int .i64 0, .slice none 0 0, .slice none 0 0]) ?_ 1; refine M.fp (cs := #[.int .i64 0, .slice none 0 0, .slice none 0 0]) ?_ 0; exact M.bk zai) Tryd.underlying39 rfl (by kernel_rfl)) rfl ?_
    exact ⟨_, _, M.eqe, M.nl, M.nl, by repeat (first | (with_reducible first | exact HB.out | apply below_alloc | apply pw_below_drewN | apply below_drew1 | refine below_set ?_ (IsS95.ge HI146.out) | refine below_set ?_ zak.out | refine below_set ?_ zaq.out) | exact HB.out)⟩
 case rest =>
  clear HC4
  (try clear c1); (try clear c2); (try clear p2); (try clear c9); (try clear c9b0); (try clear c9b1); (try clear c10); (try clear c10b0); (try clear c10b1); (try clear c11); (try clear c12); (try clear c12b0); (try clear c12b1); (try clear c14); (try clear c15); (try clear c17); (try clear c20); (try clear c21); (try clear c23); (try clear c24); (try clear c25); (try clear zaF); (try clear zaG); (try clear zaH); (try clear zaN); (try clear zaO); (try clear zaP); (try clear zaX); (try clear zaY); (try clear zaZ); (try clear za7); (try clear za8); (try clear za9); (try clear zaI); (try clear zaJ); (try clear zaK); (try clear zaQ); (try clear zaR); (try clear zaS); (try clear za0); (try clear za1); (try clear za2); (try clear zba); (try clear zbb); (try clear zbc)
  obtain ⟨kq, zav, zaw, zax, zay, zaz, zaA, HA, HJ3, zai, zao, HI146, HB⟩ := hcut
  cases kq with
  | zero => exact absurd HA.out (by simp [chunk_Take_p.j0])
  | succ kj3 =>
   have H := HA.out
   clear HA
   simp only [chunk_Take_p.j0] at H
   replace H := Option.bind_eq_some_iff.mp H
   obtain ⟨⟨t158, t159, t160, t161, t162⟩, A260, H⟩ := H
   replace H : (chunk_Take_p.l0 kj3 t158 0 t159 t160 t161 t162 zaA ([] : List (S43)) ([] : List Int)) = some (r1, r2, r3, r4) := H
   have A26 := Aside0.mk A260
   clear A260
   have H' := Aside0.mk H
   clear H
   go_wp2_with (first | ((with_reducible refine gate_callee (f := 25) rfl ?_); refine M.goes (some 24) Tryd.func25 #[.pointer (some ⟨g146, 0, none⟩), .int .i64 8] rfl ?_; (with_reducible refine (scan_Scan_Num.calls g146 zaw zax zay zaz 8 t158 t159 t160 t161 t162 w _ ?side1 ?side2 A26.out).mono ?_); (case side1 => repeat (first | (with_reducible first | exact HI146.out | apply IsS95.alloc | apply IsS95.drewN | apply IsS95.drew | apply IsS95.set_0 | apply IsS95.set_1 | apply IsS95.set_2 | apply IsS95.set_3 | refine IsS95.far ?_ zal.out _ | refine IsS95.far ?_ zat.out _) | exact HI146.out)); (case side2 => repeat (first | (with_reducible first | exact HB.out | apply below_alloc | apply pw_below_drewN | apply below_drew1 | refine below_set ?_ (IsS95.ge HI146.out) | refine below_set ?_ zak.out | refine below_set ?_ zaq.out) | exact HB.out)); rintro e w27 ⟨rfl, hi, hb, hk⟩; refine ⟨_, rfl, ?_⟩; replace zai := Aside0.mk (KeepBut.blk hk (g' := zah) (o := .cells #[.int .i64 zav, .slice none 0 0, .slice none 0 0] 39 (0, 0)) (M.bk zai) zam.out (by simp)); replace zao := Aside0.mk (KeepBut.blk hk (g' := zan) (o := .cells #[.int .i64 zaA, .slice none 0 0, .slice none 0 0] 39 (0, 0)) (M.bk zao) zau.out (by simp)); replace HB := Aside0.mk (hb); replace HI146 := Aside0.mk (hi); (try clear hb); (try clear hk); (try clear hi)))
   go_loopg [25] kj3 (fun kq v25 w' => ∃ (x25_2 : Int) (zbd : ByteArray) (zbe : Int) (zbf : Int) (zbg : Bool) (zbh : List (S43)) (zbi : List Int) (zbj : Value) (zbk : Value), v25 = .int .i64 x25_2 ∧ Aside0 (chunk_Take_p.l0 kq t158 x25_2 zbd zbe zbf zbg zaA zbh zbi = some (r1, r2, r3, r4)) ∧ Aside0 (kq ≤ kj3) ∧ Aside0 (Kd.R k43 43 w' w.heap.size (fun _ => True) zbj zbh) ∧ Aside0 (Kd.R (Kd.int .i64) 3 w' w.heap.size (fun _ => True) zbk zbi) ∧ Aside0 (w'.heap[zah]? = some (.cells #[.int .i64 zav, (.slice none 0 0), (.slice none 0 0)] 39 (0, 0))) ∧ Aside0 (w'.heap[zan]? = some (.cells #[.int .i64 zaA, zbj, zbk] 39 (0, 0))) ∧ Aside0 (IsS95 w w' g146 zbd zbe zbf zbg) ∧ Aside0 (Below w.heap.size w w'))
   case atStart => exact ⟨(0), (t159), (t160), (t161), (t162), (([] : List (S43))), (([] : List Int)), (.slice none 0 0), (.slice none 0 0), M.eqv, H', ⟨Nat.le_refl _⟩, ⟨M.nl⟩, ⟨M.nl⟩, ⟨M.bk zai⟩, ⟨M.bk zao⟩, ⟨by repeat (first | (with_reducible first | exact HI146.out | apply IsS95.alloc | apply IsS95.drewN | apply IsS95.drew | apply IsS95.set_0 | apply IsS95.set_1 | apply IsS95.set_2 | apply IsS95.set_3 | refine IsS95.far ?_ zal.out _ | refine IsS95.far ?_ zat.out _) | exact HI146.out)⟩, ⟨by repeat (first | (with_reducible first | exact HB.out | apply below_alloc | apply pw_below_drewN | apply below_drew1 | refine below_set ?_ (IsS95.ge HI146.out) | refine below_set ?_ zak.out | refine below_set ?_ zaq.out) | exact HB.out)⟩⟩
   case round =>
    clear H'
    (try clear c1); (try clear c2); (try clear p2); (try clear c9); (try clear c9b0); (try clear c9b1); (try clear c10); (try clear c10b0); (try clear c10b1); (try clear c11); (try clear c12); (try clear c12b0); (try clear c12b1); (try clear c14); (try clear c15); (try clear c17); (try clear c20); (try clear c21); (try clear c23); (try clear c24); (try clear c25); (try clear zaF); (try clear zaG); (try clear zaH); (try clear zaN); (try clear zaO); (try clear zaP); (try clear zaX); (try clear zaY); (try clear zaZ); (try clear za7); (try clear za8); (try clear za9); (try clear zaI); (try clear zaJ); (try clear zaK); (try clear zaQ); (try clear zaR); (try clear zaS); (try clear za0); (try clear za1); (try clear za2); (try clear zba); (try clear zbb); (try clear zbc); (try clear p2)
    obtain ⟨x25_2, zbd, zbe, zbf, zbg, zbh, zbi, zbj, zbk, rfl, HA, HK2, zbl, zbm, zai, zao, HI146, HB⟩ := hrel
    cases gk with
    | zero => exact absurd HA.out (by simp [chunk_Take_p.l0])
    | succ k2 =>
     have H := HA.out
     clear HA
     simp only [chunk_Take_p.l0] at H
     by_cases c28 : x25_2 < t158
     ·rw [if_pos c28] at H
      have c28b0 := decide_eq_true c28
      clear c28
      replace H := Option.bind_eq_some_iff.mp H
      obtain ⟨⟨t163, t164, t165, t166, t167⟩, A290, H⟩ := H
      replace H : (if zaA > 0 then ((scan_Scan_Fix.f t164 t165 t166 t167 32).bind fun bt169 => ((scan_Scan_Num.f bt169.2.1 bt169.2.2.1 bt169.2.2.2.1 bt169.2.2.2.2 2147483648).bind fun bt174 => (if zbi.length < 17592186044416 then (if zbh.length < 4398046511104 then (chunk_Take_p.l0 k2 t158 (wrap64 (x25_2 + 1)) bt174.2.1 bt174.2.2.1 bt174.2.2.2.1 bt174.2.2.2.2 zaA (zbh ++ [(⟨t163, bt169.1⟩ : S43)]) (zbi ++ [bt174.1])) else (none)) else (none)))) else ((scan_Scan_Text.f t164 t165 t166 t167 2048).bind fun bt185 => (if zbh.length < 4398046511104 then (chunk_Take_p.l0 k2 t158 (wrap64 (x25_2 + 1)) bt185.2.1 bt185.2.2.1 bt185.2.2.2.1 bt185.2.2.2.2 zaA (zbh ++ [(⟨t163, bt185.1⟩ : S43)]) zbi) else (none)))) = some (r1, r2, r3, r4) := H
      have A29 := Aside0.mk A290
      clear A290
      by_cases c30 : zaA > 0
      ·rw [if_pos c30] at H
       have c30b0 := decide_eq_true c30
       clear c30
       replace H := Option.bind_eq_some_iff.mp H
       obtain ⟨⟨t169, t170, t171, t172, t173⟩, A310, H⟩ := H
       replace H : ((scan_Scan_Num.f t170 t171 t172 t173 2147483648).bind fun bt174 => (if zbi.length < 17592186044416 then (if zbh.length < 4398046511104 then (chunk_Take_p.l0 k2 t158 (wrap64 (x25_2 + 1)) bt174.2.1 bt174.2.2.1 bt174.2.2.2.1 bt174.2.2.2.2 zaA (zbh ++ [(⟨t163, t169⟩ : S43)]) (zbi ++ [bt174.1])) else (none)) else (none))) = some (r1, r2, r3, r4) := H
       have A31 := Aside0.mk A310
       clear A310
       replace H := Option.bind_eq_some_iff.mp H
       obtain ⟨⟨t174, t175, t176, t177, t178⟩, A320, H⟩ := H
       replace H : (if zbi.length < 17592186044416 then (if zbh.length < 4398046511104 then (chunk_Take_p.l0 k2 t158 (wrap64 (x25_2 + 1)) t175 t176 t177 t178 zaA (zbh ++ [(⟨t163, t169⟩ : S43)]) (zbi ++ [t174])) else (none)) else (none)) = some (r1, r2, r3, r4) := H
       have A32 := Aside0.mk A320
       clear A320
       by_cases c33 : zbi.length < 17592186044416
       ·rw [if_pos c33] at H
        have LMc33 := Aside0.mk c33
        clear c33
        obtain ⟨y179, hy179⟩ : ∃ y_ : List Int, y_ = (zbi ++ [t174]) := ⟨_, rfl⟩
        replace H : (if zbh.length < 4398046511104 then (chunk_Take_p.l0 k2 t158 (wrap64 (x25_2 + 1)) t175 t176 t177 t178 zaA (zbh ++ [(⟨t163, t169⟩ : S43)]) y179) else (none)) = some (r1, r2, r3, r4) := by first | (rw [hy179]; with_reducible exact H) | (have H2_ := (Option.bind_some _ _).symm.trans H; rw [hy179]; with_reducible exact H2_) | (have H2_ := (Option.bind_some _ _).symm.trans H; with_reducible exact H2_) | with_reducible exact H | (rw [hy179]; exact H) | exact H
        have Ny179 := Aside0.mk hy179
        clear hy179
        by_cases c34 : zbh.length < 4398046511104
        ·rw [if_pos c34] at H
         have LMc34 := Aside0.mk c34
         clear c34
         obtain ⟨y182, hy182⟩ : ∃ y_ : List (S43), y_ = (zbh ++ [(⟨t163, t169⟩ : S43)]) := ⟨_, rfl⟩
         replace H : (chunk_Take_p.l0 k2 t158 (wrap64 (x25_2 + 1)) t175 t176 t177 t178 zaA y182 y179) = some (r1, r2, r3, r4) := by first | (rw [hy182]; with_reducible exact H) | (have H2_ := (Option.bind_some _ _).symm.trans H; rw [hy182]; with_reducible exact H2_) | (have H2_ := (Option.bind_some _ _).symm.trans H; with_reducible exact H2_) | with_reducible exact H | (rw [hy182]; exact H) | exact H
         have Ny182 := Aside0.mk hy182
         clear hy182
         have H' := Aside0.mk H
         clear H
         try go_wp2_with (first | ((with_reducible refine gate_callee (f := 26) rfl ?_); refine M.goes (some 28) Tryd.func26 #[.pointer (some ⟨g146, 0, none⟩), .int .i64 64] rfl ?_; (with_reducible refine (scan_Scan_Text.calls g146 zbd zbe zbf zbg 64 t163 t164 t165 t166 t167 w _ ?side1 ?side2 A29.out).mono ?_); (case side1 => repeat (first | (with_reducible first | exact HI146.out | apply IsS95.alloc | apply IsS95.drewN | apply IsS95.drew | apply IsS95.set_0 | apply IsS95.set_1 | apply IsS95.set_2 | apply IsS95.set_3 | refine IsS95.far ?_ zal.out _ | refine IsS95.far ?_ zat.out _) | exact HI146.out)); (case side2 => repeat (first | (with_reducible first | exact HB.out | apply below_alloc | apply pw_below_drewN | apply below_drew1 | refine below_set ?_ (IsS95.ge HI146.out) | refine below_set ?_ zak.out | refine below_set ?_ zaq.out) | exact HB.out)); rintro e w35 ⟨rfl, hi, hb, hk⟩; refine ⟨_, rfl, ?_⟩; replace zbl := Aside0.mk (Kd.R_mono (Kd.R_keep (IsS95.apart (show IsS95 w _ g146 zbd zbe zbf zbg from by repeat (first | (with_reducible first | exact HI146.out | apply IsS95.alloc | apply IsS95.drewN | apply IsS95.drew | apply IsS95.set_0 | apply IsS95.set_1 | apply IsS95.set_2 | apply IsS95.set_3 | refine IsS95.far ?_ zal.out _ | refine IsS95.far ?_ zat.out _) | exact HI146.out)) (M.ro zbl) (by decide)) hk (fun _ h => h.2)) (fun _ h => h.1)); replace zbm := Aside0.mk (Kd.R_mono (Kd.R_keep (IsS95.apart (show IsS95 w _ g146 zbd zbe zbf zbg from by repeat (first | (with_reducible first | exact HI146.out | apply IsS95.alloc | apply IsS95.drewN | apply IsS95.drew | apply IsS95.set_0 | apply IsS95.set_1 | apply IsS95.set_2 | apply IsS95.set_3 | refine IsS95.far ?_ zal.out _ | refine IsS95.far ?_ zat.out _) | exact HI146.out)) (M.ro zbm) (by decide)) hk (fun _ h => h.2)) (fun _ h => h.1)); replace zai := Aside0.mk (KeepBut.blk hk (g' := zah) (o := .cells #[.int .i64 zav, .slice none 0 0, .slice none 0 0] 39 (0, 0)) (M.bk zai) zam.out (by simp)); replace zao := Aside0.mk (KeepBut.blk hk (g' := zan) (o := .cells #[.int .i64 zaA, zbj, zbk] 39 (0, 0)) (M.bk zao) zau.out (by simp)); replace HB := Aside0.mk (hb); replace HI146 := Aside0.mk (hi); (try clear hb); (try clear hk); (try clear hi)) | ((with_reducible refine gate_dst (N := 6) rfl ?_); refine M.bx 6 43 (#[.string (⟨#[]⟩ : ByteArray), .string (⟨#[]⟩ : ByteArray)]) ?_; intro zbn hg w36 hbox hb; replace zbl := Aside0.mk (Kd.R_below (Kd.R_elderB (M.ro zbl) zbn (Nat.le_of_eq hg.symm)) hb); replace zbm := M.roB zbm hb; have zbo := Aside0.mk (hbox); have zbp := Aside0.mk ((by rw [hg]; exact (below_size (by repeat (first | (with_reducible first | exact HB.out | apply below_alloc | apply pw_below_drewN | apply below_drew1 | refine below_set ?_ (IsS95.ge HI146.out) | refine below_set ?_ zak.out | refine below_set ?_ zaq.out) | exact HB.out))) : w.heap.size ≤ zbn)); have zbq := Aside0.mk ((by rw [hg]; exact (below_size (by repeat (first | (with_reducible first | exact HB.out | apply below_alloc | apply pw_below_drewN | apply below_drew1 | refine below_set ?_ (IsS95.ge HI146.out) | refine below_set ?_ zak.out | refine below_set ?_ zaq.out) | exact HB.out))) : w.heap.size ≤ zbn)); replace HB := Aside0.mk (below_step (by repeat (first | (with_reducible first | exact HB.out | apply below_alloc | apply pw_below_drewN | apply below_drew1 | refine below_set ?_ (IsS95.ge HI146.out) | refine below_set ?_ zak.out | refine below_set ?_ zaq.out) | exact HB.out)) hb); have zbr := M.bkL zai hg; have zbs := M.bkG zai hg; replace zai := M.bkB zai hb; have zbt := M.bkL zao hg; have zbu := M.bkG zao hg; replace zao := M.bkB zao hb; have zbv := Aside0.mk ((by rw [hg]; exact Nat.ne_of_lt (IsS95.lt (show IsS95 w _ g146 t164 t165 t166 t167 from by repeat (first | (with_reducible first | exact HI146.out | apply IsS95.alloc | apply IsS95.drewN | apply IsS95.drew | apply IsS95.set_0 | apply IsS95.set_1 | apply IsS95.set_2 | apply IsS95.set_3 | refine IsS95.far ?_ zal.out _ | refine IsS95.far ?_ zat.out _) | exact HI146.out))) : g146 ≠ zbn)); have zbw := Aside0.mk ((by rw [hg]; exact Nat.ne_of_gt (IsS95.lt (show IsS95 w _ g146 t164 t165 t166 t167 from by repeat (first | (with_reducible first | exact HI146.out | apply IsS95.alloc | apply IsS95.drewN | apply IsS95.drew | apply IsS95.set_0 | apply IsS95.set_1 | apply IsS95.set_2 | apply IsS95.set_3 | refine IsS95.far ?_ zal.out _ | refine IsS95.far ?_ zat.out _) | exact HI146.out))) : zbn ≠ g146)); replace HI146 := Aside0.mk (IsS95.below (by repeat (first | (with_reducible first | exact HI146.out | apply IsS95.alloc | apply IsS95.drewN | apply IsS95.drew | apply IsS95.set_0 | apply IsS95.set_1 | apply IsS95.set_2 | apply IsS95.set_3 | refine IsS95.far ?_ zal.out _ | refine IsS95.far ?_ zat.out _) | exact HI146.out)) hb); clear hb hbox hg; have zbx := zbs.out; have zby := zbr.out; have zbz := zbu.out; have zbA := zbt.out; have zbB := zbw.out; have zbC := zbv.out; obtain ⟨zbD, zbE⟩ := M.bc2 (w := w36) (a := .string (⟨#[]⟩ : ByteArray)) (b := .string (⟨#[]⟩ : ByteArray)) zbo.out; obtain ⟨zbF, zbG⟩ := M.bf2 zbo; have zbH := zas.out; have zbI := zar.out; have zbJ := zau.out; have zbK := zat.out; obtain ⟨zbL, zbM, zbN⟩ := M.bc3 (w := w36) (a := .int .i64 zaA) (b := zbj) (c := zbk) zao.out; obtain ⟨zbO, zbP, zbQ⟩ := M.bf3 zao) | ((with_reducible refine gate_callee (f := 27) rfl ?_); refine M.goes (some 34) Tryd.func27 #[.pointer (some ⟨g146, 0, none⟩), .int .i64 32] rfl ?_; (with_reducible refine (scan_Scan_Fix.calls g146 t164 t165 t166 t167 32 t169 t170 t171 t172 t173 w _ ?side1 ?side2 A31.out).mono ?_); (case side1 => repeat (first | (with_reducible first | exact HI146.out | apply IsS95.alloc | apply IsS95.drewN | apply IsS95.drew | apply IsS95.set_0 | apply IsS95.set_1 | apply IsS95.set_2 | apply IsS95.set_3 | refine IsS95.far ?_ zal.out _ | refine IsS95.far ?_ zat.out _ | refine IsS95.far ?_ zbv.out _) | exact HI146.out)); (case side2 => repeat (first | (with_reducible first | exact HB.out | apply below_alloc | apply pw_below_drewN | apply below_drew1 | refine below_set ?_ (IsS95.ge HI146.out) | refine below_set ?_ zak.out | refine below_set ?_ zaq.out | refine below_set ?_ zbq.out) | exact HB.out)); rintro e w44 ⟨rfl, hi, hb, hk⟩; refine ⟨_, rfl, ?_⟩; replace zbl := Aside0.mk (Kd.R_mono (Kd.R_keep (IsS95.apart (show IsS95 w _ g146 t164 t165 t166 t167 from by repeat (first | (with_reducible first | exact HI146.out | apply IsS95.alloc | apply IsS95.drewN | apply IsS95.drew | apply IsS95.set_0 | apply IsS95.set_1 | apply IsS95.set_2 | apply IsS95.set_3 | refine IsS95.far ?_ zal.out _ | refine IsS95.far ?_ zat.out _ | refine IsS95.far ?_ zbv.out _) | exact HI146.out)) (by (with_reducible repeat (first | apply Kd.R_alloc | apply Kd.R_drewN | apply Kd.R_drew)); exact (Kd.R_mono (Kd.R_far (p := ⟨zbn, 1, none⟩) (Kd.R_far (p := ⟨zbn, 0, none⟩) (Kd.R_mono zbl.out (fun k_ hk => (⟨hk, hk.2⟩ : _ ∧ k_ ≠ zbn))) (fun _ hk => hk.2) (.string t163)) (fun _ hk => hk.2) (.string (⟨#[]⟩ : ByteArray))) (fun _ h_ => h_.1))) (by decide)) hk (fun _ h => h.2)) (fun _ h => h.1)); replace zbm := Aside0.mk (Kd.R_mono (Kd.R_keep (IsS95.apart (show IsS95 w _ g146 t164 t165 t166 t167 from by repeat (first | (with_reducible first | exact HI146.out | apply IsS95.alloc | apply IsS95.drewN | apply IsS95.drew | apply IsS95.set_0 | apply IsS95.set_1 | apply IsS95.set_2 | apply IsS95.set_3 | refine IsS95.far ?_ zal.out _ | refine IsS95.far ?_ zat.out _ | refine IsS95.far ?_ zbv.out _) | exact HI146.out)) (by (with_reducible repeat (first | apply Kd.R_alloc | apply Kd.R_drewN | apply Kd.R_drew)); exact (Kd.R_mono (Kd.R_far (p := ⟨zbn, 1, none⟩) (Kd.R_far (p := ⟨zbn, 0, none⟩) (Kd.R_types zbm.out zbo.out (by decide)) (fun _ hk => hk.2) (.string t163)) (fun _ hk => hk.2) (.string (⟨#[]⟩ : ByteArray))) (fun _ h_ => h_.1))) (by decide)) hk (fun _ h => h.2)) (fun _ h => h.1)); replace zai := Aside0.mk (KeepBut.blk hk (g' := zah) (o := .cells #[.int .i64 zav, .slice none 0 0, .slice none 0 0] 39 (0, 0)) (by refine M.fr ?_ zbr; refine M.fr ?_ zbr; exact M.bk zai) zam.out (by simp)); replace zao := Aside0.mk (KeepBut.blk hk (g' := zan) (o := .cells #[.int .i64 zaA, zbj, zbk] 39 (0, 0)) (by refine M.fr ?_ zbt; refine M.fr ?_ zbt; exact M.bk zao) zau.out (by simp)); replace zbo := Aside0.mk (KeepBut.blk hk (g' := zbn) (o := .cells #[.string t163, .string (⟨#[]⟩ : ByteArray)] 43 (0, 0)) (by refine M.fp (cs := #[.string t163, .string (⟨#[]⟩ : ByteArray)]) ?_ 1; refine M.fp (cs := #[.string (⟨#[]⟩ : ByteArray), .string (⟨#[]⟩ : ByteArray)]) ?_ 0; exact M.bk zbo) zbw.out (by simp)); replace HB := Aside0.mk (hb); replace HI146 := Aside0.mk (hi); (try clear hb); (try clear hk); (try clear hi); obtain ⟨zbR, zbS⟩ := M.bc2 (w := w44) (a := .string t163) (b := .string (⟨#[]⟩ : ByteArray)) zbo.out; obtain ⟨zbT, zbU⟩ := M.bf2 zbo))
         have n0_ : Aside0 (Kd.R k43 43 (w44.setCell ⟨zbn, 1, none⟩ (.string t169)) w.heap.size (fun k_ => k_ ≠ zbn) zbj zbh) := ⟨by (with_reducible repeat (first | apply Kd.R_alloc | apply Kd.R_drewN | apply Kd.R_drew)); exact Kd.R_mono (Kd.R_far (p := ⟨zbn, 1, none⟩) (Kd.R_mono zbl.out (fun k_ hk => (⟨hk, hk.2⟩ : _ ∧ k_ ≠ zbn))) (fun _ hk => hk.2) (.string t169)) (fun _ hk => hk.1.2)⟩
         have n1_ : Aside0 (Kd.R (Kd.int .i64) 3 (w44.setCell ⟨zbn, 1, none⟩ (.string t169)) w.heap.size (fun _ => True) zbk zbi) := ⟨by (with_reducible repeat (first | apply Kd.R_alloc | apply Kd.R_drewN | apply Kd.R_drew)); exact Kd.R_mono (Kd.R_far (p := ⟨zbn, 1, none⟩) (Kd.R_types zbm.out zbo.out (by decide)) (fun _ hk => hk.2) (.string t169)) (fun _ hk => trivial)⟩
         have n2_ : Aside0 ((w44.setCell ⟨zbn, 1, none⟩ (.string t169)).heap[zah]? = some (.cells #[.int .i64 zav, .slice none 0 0, .slice none 0 0] 39 (0, 0))) := ⟨by refine M.fr ?_ zbr; exact M.bk zai⟩
         have n3_ : Aside0 ((w44.setCell ⟨zbn, 1, none⟩ (.string t169)).heap[zan]? = some (.cells #[.int .i64 zaA, zbj, zbk] 39 (0, 0))) := ⟨by refine M.fr ?_ zbt; exact M.bk zao⟩
         have n4_ : Aside0 ((w44.setCell ⟨zbn, 1, none⟩ (.string t169)).heap[zbn]? = some (.cells #[.string t163, .string t169] 43 (0, 0))) := ⟨by refine M.fp (cs := #[.string t163, .string (⟨#[]⟩ : ByteArray)]) ?_ 1; exact M.bk zbo⟩
         have n5_ : Aside0 (IsS95 w (w44.setCell ⟨zbn, 1, none⟩ (.string t169)) g146 t170 t171 t172 t173) := ⟨by repeat (first | (with_reducible first | exact HI146.out | apply IsS95.alloc | apply IsS95.drewN | apply IsS95.drew | apply IsS95.set_0 | apply IsS95.set_1 | apply IsS95.set_2 | apply IsS95.set_3 | refine IsS95.far ?_ zal.out _ | refine IsS95.far ?_ zat.out _ | refine IsS95.far ?_ zbv.out _) | exact HI146.out)⟩
         have n6_ : Aside0 (Below w.heap.size w (w44.setCell ⟨zbn, 1, none⟩ (.string t169))) := ⟨by repeat (first | (with_reducible first | exact HB.out | apply below_alloc | apply pw_below_drewN | apply below_drew1 | refine below_set ?_ (IsS95.ge HI146.out) | refine below_set ?_ zak.out | refine below_set ?_ zaq.out | refine below_set ?_ zbq.out) | exact HB.out)⟩
         (try clear zbl)
         (try clear zbm)
         (try clear zai)
         (try clear zao)
         (try clear zbo)
         (try clear HI146)
         (try clear HB)
         generalize (w44.setCell ⟨zbn, 1, none⟩ (.string t169)) = w46 at n0_ n1_ n2_ n3_ n4_ n5_ n6_ ⊢
         have zbl := n0_
         have zbm := n1_
         have zai := n2_
         have zao := n3_
         have zbo := n4_
         have HI146 := n5_
         have HB := n6_
         clear n0_ n1_ n2_ n3_ n4_ n5_ n6_
         replace zbl := Aside0.mk (Kd.R_drew zbl.out); replace zbm := Aside0.mk (Kd.R_drew zbm.out); replace zai := Aside0.mk (blk_drew zai.out); replace zao := Aside0.mk (blk_drew zao.out); replace zbo := Aside0.mk (blk_drew zbo.out); replace HI146 := Aside0.mk (IsS95.drew HI146.out); replace HB := Aside0.mk (below_drew1 HB.out)
         refine start_ (n := 8) (S := fun w' => w'.cell? ⟨zan, 0, none⟩ = some (.int .i64 zaA) ∧ w'.cell? ⟨zan, 1, none⟩ = some (zbj) ∧ w'.cell? ⟨zan, 2, none⟩ = some (zbk)) (ds := [7]) #[false, false, false, false, false, false, false, false] (by kernel_rfl) rfl rfl ⟨(blk_cell zao.out 0).trans rfl, (blk_cell zao.out 1).trans rfl, (blk_cell zao.out 2).trans rfl⟩ (fun hHeld => ?_); refine with_tabW chunk_Take_p.tab15 chunk_Take_p.bits15 (fun HT_ HW_ => ?_)
         generalize w46.drew = w47 at zbl zbm zai zao zbo HI146 HB hHeld ⊢
         refine M.pu 0 36 [1, 7] HT_ ?_
         refine M.pu 2 38 [1, 1, 1, 5] HT_ ?_
         refine M.tk 1 37 [3, 5] HT_ HW_ hHeld ?_
         refine one_ (i := 3) (N := some 39) #[true, true, true, true, false, false, false, false] rfl rfl (one_of HT_.out (by kernel_rfl)) (by decide) (fun K hK => ?_)
         refine goes_ Tryd.func25 (by kernel_rfl) rfl #[.pointer (some ⟨g146, 0, none⟩), .int .i64 2147483648] (by rfl) rfl rfl (by (try simp only [List.map_toArray, List.map_cons, List.map_nil]); first | done | rfl | (simp only [List.length_drop, List.length_take]; rfl)) ?_
         with_reducible refine (scan_Scan_Num.calls g146 t170 t171 t172 t173 2147483648 t174 t175 t176 t177 t178 w _ ?side1 ?side2 A32.out).mono ?_
         (case side1 => repeat (first | (with_reducible first | exact HI146.out | apply IsS95.alloc | apply IsS95.drewN | apply IsS95.drew | apply IsS95.set_0 | apply IsS95.set_1 | apply IsS95.set_2 | apply IsS95.set_3 | refine IsS95.far ?_ zal.out _ | refine IsS95.far ?_ zat.out _ | refine IsS95.far ?_ zbv.out _) | exact HI146.out))
         (case side2 => repeat (first | (with_reducible first | exact HB.out | apply below_alloc | apply pw_below_drewN | apply below_drew1 | refine below_set ?_ (IsS95.ge HI146.out) | refine below_set ?_ zak.out | refine below_set ?_ zaq.out | refine below_set ?_ zbq.out) | exact HB.out))
         rintro e w48 ⟨rfl, hi, hb, hk⟩
         refine ⟨_, rfl, ?_⟩
         replace zbl := Aside0.mk (Kd.R_mono (Kd.R_keep (IsS95.apart (show IsS95 w _ g146 t170 t171 t172 t173 from by repeat (first | (with_reducible first | exact HI146.out | apply IsS95.alloc | apply IsS95.drewN | apply IsS95.drew | apply IsS95.set_0 | apply IsS95.set_1 | apply IsS95.set_2 | apply IsS95.set_3 | refine IsS95.far ?_ zal.out _ | refine IsS95.far ?_ zat.out _ | refine IsS95.far ?_ zbv.out _) | exact HI146.out)) (M.ro zbl) (by decide)) hk (fun _ h => h.2)) (fun _ h => h.1)); replace zbm := Aside0.mk (Kd.R_mono (Kd.R_keep (IsS95.apart (show IsS95 w _ g146 t170 t171 t172 t173 from by repeat (first | (with_reducible first | exact HI146.out | apply IsS95.alloc | apply IsS95.drewN | apply IsS95.drew | apply IsS95.set_0 | apply IsS95.set_1 | apply IsS95.set_2 | apply IsS95.set_3 | refine IsS95.far ?_ zal.out _ | refine IsS95.far ?_ zat.out _ | refine IsS95.far ?_ zbv.out _) | exact HI146.out)) (M.ro zbm) (by decide)) hk (fun _ h => h.2)) (fun _ h => h.1)); replace zai := Aside0.mk (KeepBut.blk hk (g' := zah) (o := .cells #[.int .i64 zav, .slice none 0 0, .slice none 0 0] 39 (0, 0)) (M.bk zai) zam.out (by simp)); replace zao := Aside0.mk (KeepBut.blk hk (g' := zan) (o := .cells #[.int .i64 zaA, zbj, zbk] 39 (0, 0)) (M.bk zao) zau.out (by simp)); replace zbo := Aside0.mk (KeepBut.blk hk (g' := zbn) (o := .cells #[.string t163, .string t169] 43 (0, 0)) (M.bk zbo) zbw.out (by simp)); replace HB := Aside0.mk (hb); replace HI146 := Aside0.mk (hi)
         (try clear hb)
         (try clear hb2)
         (try clear hk)
         (try clear hi)
         refine hK.out _ _ ⟨(blk_cell zao.out 0).trans rfl, (blk_cell zao.out 1).trans rfl, (blk_cell zao.out 2).trans rfl⟩ (fun hHeld => ?_)
         clear hK K
         refine norm_ (a' := ?_) ?_ ?_
         rotate_left
         ·show Act.put _ (some 39) _ = _
          simp only [Act.put, List.setIfInBounds_toArray, List.set_cons_zero, List.set_cons_succ, i64_w, i32_w]
          rfl
         refine one_ (i := 4) (N := some 40) #[true, true, true, true, true, false, false, false] rfl rfl (one_of HT_.out (by kernel_rfl)) (by decide) (fun K hK => ?_)
         refine value_ (w1 := ?_) (v := ?_) (by rfl) rfl ?_ ?_
         rotate_left 2
         ·go_simp
          constructor
          ·rfl
          ·rfl
         refine hK.out _ _ ⟨(blk_cell (blk_alloc zao.out _) 0).trans rfl, (blk_cell (blk_alloc zao.out _) 1).trans rfl, (blk_cell (blk_alloc zao.out _) 2).trans rfl⟩ (fun hHeld => ?_)
         clear hK K
         refine norm_ (a' := ?_) ?_ ?_
         rotate_left
         ·show Act.put _ (some 40) _ = _
          simp only [Act.put, List.setIfInBounds_toArray, List.set_cons_zero, List.set_cons_succ, i64_w, i32_w]
          rfl
         refine one_ (i := 5) (N := some 41) #[true, true, true, true, true, true, false, false] rfl rfl (one_of HT_.out (by kernel_rfl)) (by decide) (fun K hK => ?_)
         refine Kd.R_append_step (Kd.int .i64) (w0 := w) w.heap.size (by rfl) (.tmp 37) (.tmp 40) 37 3 (.int .i64 0) 8 rfl Tryd.underlying37 info3 rfl (by decide) (by omega) zbk zbi t174 [.int .i64 t174] (fun _ => True) (fun _ => False) rfl rfl ?aP (fun _ hk => hk.elim) ?aF ?aO ?aB ?aS ?aL ?_
         (case aP => exact rfl)
         (case aB => exact (by repeat (first | (with_reducible first | exact HB.out | apply below_alloc | apply pw_below_drewN | apply below_drew1 | refine below_set ?_ (IsS95.ge HI146.out) | refine below_set ?_ zak.out | refine below_set ?_ zaq.out | refine below_set ?_ zbq.out) | exact HB.out)))
         (case aF => exact (fun _ _ => trivial))
         (case aO => exact (M.ro zbm))
         (case aS => exact (below_size (by repeat (first | (with_reducible first | exact HB.out | apply below_alloc | apply pw_below_drewN | apply below_drew1 | refine below_set ?_ (IsS95.ge HI146.out) | refine below_set ?_ zak.out | refine below_set ?_ zaq.out | refine below_set ?_ zbq.out) | exact HB.out))))
         (case aL => have := LMc33.out; omega)
         intro v180 w49 ho hb hg hat
         rw [← Ny179.out] at ho
         replace zbl := Aside0.mk (Kd.R_over' (M.ro zbl) (Kd.R_typed (M.ro zbm)) (by decide) hg); replace zai := Aside0.mk (blk_grown (g := zah) (o := .cells #[.int .i64 zav, .slice none 0 0, .slice none 0 0] 39 (0, 0)) (M.bk zai) hg (Kd.R_ne zbm.out zai.out (by decide))); replace zao := Aside0.mk (blk_grown (g := zan) (o := .cells #[.int .i64 zaA, zbj, zbk] 39 (0, 0)) (M.bk zao) hg (Kd.R_ne zbm.out zao.out (by decide))); replace HI146 := Aside0.mk (IsS95.grown (by first | exact HI146.out | exact IsS95.far HI146.out zal.out _ | exact IsS95.far HI146.out zat.out _ | exact IsS95.far HI146.out zbv.out _ | (repeat (first | (with_reducible first | exact HI146.out | apply IsS95.alloc | apply IsS95.drewN | apply IsS95.drew | apply IsS95.set_0 | apply IsS95.set_1 | apply IsS95.set_2 | apply IsS95.set_3 | refine IsS95.far ?_ zal.out _ | refine IsS95.far ?_ zat.out _ | refine IsS95.far ?_ zbv.out _) | exact HI146.out))) hg (IsS95.own_ne HI146.out zbm.out (by decide))); replace zbo := Aside0.mk (blk_grown (g := zbn) (o := .cells #[.string t163, .string t169] 43 (0, 0)) (M.bk zbo) hg (Kd.R_ne zbm.out zbo.out (by decide))); replace HB := Aside0.mk (hb); have HO181 := Aside0.mk (ho); clear zbm
         clear ho hb hg hat
         obtain ⟨Ao50, co50, eo50⟩ := Kd.R_slice HO181.out
         (first | subst eo50 | (injection eo50 with f1_ f2_ f3_; have f4_ := f1_.symm; have f5_ := f3_.symm; clear f1_ f2_ f3_; subst f4_; subst f5_))
         refine hK.out _ _ ⟨(blk_cell zao.out 0).trans rfl, (blk_cell zao.out 1).trans rfl, (blk_cell zao.out 2).trans rfl⟩ (fun hHeld => ?_)
         clear hK K
         refine norm_ (a' := ?_) ?_ ?_
         rotate_left
         ·show Act.put _ (some 41) _ = _
          simp only [Act.put, List.setIfInBounds_toArray, List.set_cons_zero, List.set_cons_succ, i64_w, i32_w]
          rfl
         refine M.pu 6 42 [7, 1] HT_ ?_
         refine last_ (i := 7) (N := none) #[true, true, true, true, true, true, true, true] rfl rfl (one_of HT_.out (by kernel_rfl)) (by decide) (fun K hK => ?_)
         have hs51 : w49.cell? ⟨zan, 2, none⟩ = some (zbk) := (blk_cell zao.out 2).trans rfl
         have hfs51 := blk_frozen zao.out 2
         have hns51_0 := zar.out
         have hns51_2 := zbu.out
         have hms51_0 := zas.out
         have hms51_2 := zbt.out
         refine skip_ (w1 := ?_) (by rfl) rfl ?_ ?_
         rotate_left
         ·go_simp
          rfl
         refine hK.out _ _ ?_
         clear hK K
         refine done_ (done_of HT_.out (by kernel_rfl)) ?_
         obtain ⟨zbV, zbW, zbX⟩ := M.bc3 (w := w49) (a := .int .i64 zaA) (b := zbj) (c := zbk) zao.out
         obtain ⟨zbY, zbZ, zb0⟩ := M.bf3 zao
         obtain ⟨zb1, zb2⟩ := M.bc2 (w := w49) (a := .string t163) (b := .string t169) zbo.out
         obtain ⟨zb3, zb4⟩ := M.bf2 zbo
         try go_wp2_with (first | ((with_reducible refine gate_builtin (b := .append) (xs := #[.tmp 47, .tmp 49]) rfl ?_); at_builtin; refine Kd.R_append k43 (w0 := w) w.heap.size rfl (.tmp 47) (.tmp 49) 36 43 (.agg #[(.string ⟨#[]⟩), (.string ⟨#[]⟩)]) 32 rfl Tryd.underlying36 info43 rfl (by decide) (by omega) zbj zbh (⟨t163, t169⟩ : S43) [.string t163, .string t169] (fun k_ => k_ ≠ zbn) (fun _ => False) rfl (by first | (go_simp; done) | (go_simp; rfl)) ?aP (fun _ hk => hk.elim) ?aF ?aO ?aB ?aS ?aL ?_; (case aP => exact k43_mkM _ _ _ (⟨t163, t169⟩ : S43)); (case aB => exact (by repeat (first | (with_reducible first | exact HB.out | apply below_alloc | apply pw_below_drewN | apply below_drew1 | refine below_set ?_ (IsS95.ge HI146.out) | refine below_set ?_ zak.out | refine below_set ?_ zaq.out | refine below_set ?_ zbq.out) | exact HB.out))); (case aF => exact (fun k_ hk => Kd.freshB (g := zbn) (o := .cells #[.string t163, .string t169] 43 (0, 0)) (by refine M.fr ?_ zbu; exact M.bk zbo) k_ hk)); (case aO => exact (by (with_reducible repeat (first | apply Kd.R_alloc | apply Kd.R_drewN | apply Kd.R_drew)); exact Kd.R_mono (Kd.R_far (p := ⟨zan, 2, none⟩) (Kd.R_types zbl.out zao.out (by decide)) (fun _ hk => hk.2) (.slice Ao50 y179.length co50)) (fun _ hk => hk.1))); (case aS => exact (below_size (by repeat (first | (with_reducible first | exact HB.out | apply below_alloc | apply pw_below_drewN | apply below_drew1 | refine below_set ?_ (IsS95.ge HI146.out) | refine below_set ?_ zak.out | refine below_set ?_ zaq.out | refine below_set ?_ zbq.out) | exact HB.out)))); (case aL => have := LMc34.out; omega); intro v183 w54 ho hb hg hat; rw [← Ny182.out] at ho; replace zai := Aside0.mk (blk_grown (g := zah) (o := .cells #[.int .i64 zav, .slice none 0 0, .slice none 0 0] 39 (0, 0)) (by refine M.fr ?_ zar; exact M.bk zai) hg (Kd.R_ne zbl.out zai.out (by decide))); replace HI146 := Aside0.mk (IsS95.grown (by first | exact HI146.out | exact IsS95.far HI146.out zal.out _ | exact IsS95.far HI146.out zat.out _ | exact IsS95.far HI146.out zbv.out _ | (repeat (first | (with_reducible first | exact HI146.out | apply IsS95.alloc | apply IsS95.drewN | apply IsS95.drew | apply IsS95.set_0 | apply IsS95.set_1 | apply IsS95.set_2 | apply IsS95.set_3 | refine IsS95.far ?_ zal.out _ | refine IsS95.far ?_ zat.out _ | refine IsS95.far ?_ zbv.out _) | exact HI146.out))) hg (IsS95.own_ne HI146.out zbl.out (by decide))); replace zbo := Aside0.mk (blk_grown (g := zbn) (o := .cells #[.string t163, .string t169] 43 (0, 0)) (by refine M.fr ?_ zbu; exact M.bk zbo) hg (Kd.R_away zbl.out (fun _ hk => hk))); replace HO181 := Aside0.mk (Kd.R_over' (by (with_reducible repeat (first | apply Kd.R_alloc | apply Kd.R_drewN | apply Kd.R_drew)); exact (Kd.R_mono (Kd.R_far (p := ⟨zan, 2, none⟩) (Kd.R_types HO181.out zao.out (by decide)) (fun _ hk => hk.2) (.slice Ao50 y179.length co50)) (fun _ h_ => h_.1))) (Kd.R_typed (by (with_reducible repeat (first | apply Kd.R_alloc | apply Kd.R_drewN | apply Kd.R_drew)); exact (Kd.R_mono (Kd.R_far (p := ⟨zan, 2, none⟩) (Kd.R_types zbl.out zao.out (by decide)) (fun _ hk => hk.2) (.slice Ao50 y179.length co50)) (fun _ h_ => h_.1)))) (by decide) hg); replace zao := Aside0.mk (blk_grown (g := zan) (o := .cells #[.int .i64 zaA, zbj, .slice Ao50 y179.length co50] 39 (0, 0)) (by refine M.fp (cs := #[.int .i64 zaA, zbj, zbk]) ?_ 2; exact M.bk zao) hg (Kd.R_ne zbl.out zao.out (by decide))); replace HB := Aside0.mk (hb); have HO184 := Aside0.mk (ho); clear zbl; clear ho hb hg hat; obtain ⟨Ao55, co55, eo55⟩ := Kd.R_slice HO184.out; subst eo55; obtain ⟨zb5, zb6, zb7⟩ := M.bc3 (w := w54) (a := .int .i64 zaA) (b := zbj) (c := .slice Ao50 y179.length co50) zao.out; obtain ⟨zb8, zb9, zca⟩ := M.bf3 zao))
         go_roundg k2
         case measure => have := HJ3.out; have := HK2.out; omega
         case rel => exact ⟨(wrap64 (x25_2 + 1)), (t175), (t176), (t177), (t178), (y182), (y179), (.slice Ao55 y182.length co55), (.slice Ao50 y179.length co50), M.eqv, H', ⟨by have := HJ3.out; have := HK2.out; omega⟩, ⟨by (with_reducible repeat (first | apply Kd.R_alloc | apply Kd.R_drewN | apply Kd.R_drew)); exact Kd.R_mono (Kd.R_far (p := ⟨zan, 1, none⟩) (Kd.R_types HO184.out zao.out (by decide)) (fun _ hk => hk.2) (.slice Ao55 y182.length co55)) (fun _ hk => trivial)⟩, ⟨by (with_reducible repeat (first | apply Kd.R_alloc | apply Kd.R_drewN | apply Kd.R_drew)); exact Kd.R_mono (Kd.R_far (p := ⟨zan, 1, none⟩) (Kd.R_types HO181.out zao.out (by decide)) (fun _ hk => hk.2) (.slice Ao55 y182.length co55)) (fun _ hk => trivial)⟩, ⟨by refine M.fr ?_ zar; exact M.bk zai⟩, ⟨by refine M.fp (cs := #[.int .i64 zaA, zbj, .slice Ao50 y179.length co50]) ?_ 1; exact M.bk zao⟩, ⟨by repeat (first | (with_reducible first | exact HI146.out | apply IsS95.alloc | apply IsS95.drewN | apply IsS95.drew | apply IsS95.set_0 | apply IsS95.set_1 | apply IsS95.set_2 | apply IsS95.set_3 | refine IsS95.far ?_ zal.out _ | refine IsS95.far ?_ zat.out _ | refine IsS95.far ?_ zbv.out _) | exact HI146.out)⟩, ⟨by repeat (first | (with_reducible first | exact HB.out | apply below_alloc | apply pw_below_drewN | apply below_drew1 | refine below_set ?_ (IsS95.ge HI146.out) | refine below_set ?_ zak.out | refine below_set ?_ zaq.out | refine below_set ?_ zbq.out) | exact HB.out)⟩⟩
        ·exact M.nf c34 H
       ·exact M.nf c33 H
      ·rw [if_neg c30] at H
       have c30b0 := decide_eq_false c30
       clear c30
       replace H := Option.bind_eq_some_iff.mp H
       obtain ⟨⟨t185, t186, t187, t188, t189⟩, A570, H⟩ := H
       replace H : (if zbh.length < 4398046511104 then (chunk_Take_p.l0 k2 t158 (wrap64 (x25_2 + 1)) t186 t187 t188 t189 zaA (zbh ++ [(⟨t163, t185⟩ : S43)]) zbi) else (none)) = some (r1, r2, r3, r4) := H
       have A57 := Aside0.mk A570
       clear A570
       by_cases c58 : zbh.length < 4398046511104
       ·rw [if_pos c58] at H
        have LMc58 := Aside0.mk c58
        clear c58
        obtain ⟨y190, hy190⟩ : ∃ y_ : List (S43), y_ = (zbh ++ [(⟨t163, t185⟩ : S43)]) := ⟨_, rfl⟩
        replace H : (chunk_Take_p.l0 k2 t158 (wrap64 (x25_2 + 1)) t186 t187 t188 t189 zaA y190 zbi) = some (r1, r2, r3, r4) := by first | (rw [hy190]; with_reducible exact H) | (have H2_ := (Option.bind_some _ _).symm.trans H; rw [hy190]; with_reducible exact H2_) | (have H2_ := (Option.bind_some _ _).symm.trans H; with_reducible exact H2_) | with_reducible exact H | (rw [hy190]; exact H) | exact H
        have Ny190 := Aside0.mk hy190
        clear hy190
        have H' := Aside0.mk H
        clear H
        go_wp2_with (first | ((with_reducible refine gate_callee (f := 26) rfl ?_); refine M.goes (some 28) Tryd.func26 #[.pointer (some ⟨g146, 0, none⟩), .int .i64 64] rfl ?_; (with_reducible refine (scan_Scan_Text.calls g146 zbd zbe zbf zbg 64 t163 t164 t165 t166 t167 w _ ?side1 ?side2 A29.out).mono ?_); (case side1 => repeat (first | (with_reducible first | exact HI146.out | apply IsS95.alloc | apply IsS95.drewN | apply IsS95.drew | apply IsS95.set_0 | apply IsS95.set_1 | apply IsS95.set_2 | apply IsS95.set_3 | refine IsS95.far ?_ zal.out _ | refine IsS95.far ?_ zat.out _) | exact HI146.out)); (case side2 => repeat (first | (with_reducible first | exact HB.out | apply below_alloc | apply pw_below_drewN | apply below_drew1 | refine below_set ?_ (IsS95.ge HI146.out) | refine below_set ?_ zak.out | refine below_set ?_ zaq.out) | exact HB.out)); rintro e w59 ⟨rfl, hi, hb, hk⟩; refine ⟨_, rfl, ?_⟩; replace zbl := Aside0.mk (Kd.R_mono (Kd.R_keep (IsS95.apart (show IsS95 w _ g146 zbd zbe zbf zbg from by repeat (first | (with_reducible first | exact HI146.out | apply IsS95.alloc | apply IsS95.drewN | apply IsS95.drew | apply IsS95.set_0 | apply IsS95.set_1 | apply IsS95.set_2 | apply IsS95.set_3 | refine IsS95.far ?_ zal.out _ | refine IsS95.far ?_ zat.out _) | exact HI146.out)) (M.ro zbl) (by decide)) hk (fun _ h => h.2)) (fun _ h => h.1)); replace zbm := Aside0.mk (Kd.R_mono (Kd.R_keep (IsS95.apart (show IsS95 w _ g146 zbd zbe zbf zbg from by repeat (first | (with_reducible first | exact HI146.out | apply IsS95.alloc | apply IsS95.drewN | apply IsS95.drew | apply IsS95.set_0 | apply IsS95.set_1 | apply IsS95.set_2 | apply IsS95.set_3 | refine IsS95.far ?_ zal.out _ | refine IsS95.far ?_ zat.out _) | exact HI146.out)) (M.ro zbm) (by decide)) hk (fun _ h => h.2)) (fun _ h => h.1)); replace zai := Aside0.mk (KeepBut.blk hk (g' := zah) (o := .cells #[.int .i64 zav, .slice none 0 0, .slice none 0 0] 39 (0, 0)) (M.bk zai) zam.out (by simp)); replace zao := Aside0.mk (KeepBut.blk hk (g' := zan) (o := .cells #[.int .i64 zaA, zbj, zbk] 39 (0, 0)) (M.bk zao) zau.out (by simp)); replace HB := Aside0.mk (hb); replace HI146 := Aside0.mk (hi); (try clear hb); (try clear hk); (try clear hi)) | ((with_reducible refine gate_dst (N := 6) rfl ?_); refine M.bx 6 43 (#[.string (⟨#[]⟩ : ByteArray), .string (⟨#[]⟩ : ByteArray)]) ?_; intro zbn hg w60 hbox hb; replace zbl := Aside0.mk (Kd.R_below (Kd.R_elderB (M.ro zbl) zbn (Nat.le_of_eq hg.symm)) hb); replace zbm := M.roB zbm hb; have zbo := Aside0.mk (hbox); have zbp := Aside0.mk ((by rw [hg]; exact (below_size (by repeat (first | (with_reducible first | exact HB.out | apply below_alloc | apply pw_below_drewN | apply below_drew1 | refine below_set ?_ (IsS95.ge HI146.out) | refine below_set ?_ zak.out | refine below_set ?_ zaq.out) | exact HB.out))) : w.heap.size ≤ zbn)); have zbq := Aside0.mk ((by rw [hg]; exact (below_size (by repeat (first | (with_reducible first | exact HB.out | apply below_alloc | apply pw_below_drewN | apply below_drew1 | refine below_set ?_ (IsS95.ge HI146.out) | refine below_set ?_ zak.out | refine below_set ?_ zaq.out) | exact HB.out))) : w.heap.size ≤ zbn)); replace HB := Aside0.mk (below_step (by repeat (first | (with_reducible first | exact HB.out | apply below_alloc | apply pw_below_drewN | apply below_drew1 | refine below_set ?_ (IsS95.ge HI146.out) | refine below_set ?_ zak.out | refine below_set ?_ zaq.out) | exact HB.out)) hb); have zbr := M.bkL zai hg; have zbs := M.bkG zai hg; replace zai := M.bkB zai hb; have zbt := M.bkL zao hg; have zbu := M.bkG zao hg; replace zao := M.bkB zao hb; have zbv := Aside0.mk ((by rw [hg]; exact Nat.ne_of_lt (IsS95.lt (show IsS95 w _ g146 t164 t165 t166 t167 from by repeat (first | (with_reducible first | exact HI146.out | apply IsS95.alloc | apply IsS95.drewN | apply IsS95.drew | apply IsS95.set_0 | apply IsS95.set_1 | apply IsS95.set_2 | apply IsS95.set_3 | refine IsS95.far ?_ zal.out _ | refine IsS95.far ?_ zat.out _) | exact HI146.out))) : g146 ≠ zbn)); have zbw := Aside0.mk ((by rw [hg]; exact Nat.ne_of_gt (IsS95.lt (show IsS95 w _ g146 t164 t165 t166 t167 from by repeat (first | (with_reducible first | exact HI146.out | apply IsS95.alloc | apply IsS95.drewN | apply IsS95.drew | apply IsS95.set_0 | apply IsS95.set_1 | apply IsS95.set_2 | apply IsS95.set_3 | refine IsS95.far ?_ zal.out _ | refine IsS95.far ?_ zat.out _) | exact HI146.out))) : zbn ≠ g146)); replace HI146 := Aside0.mk (IsS95.below (by repeat (first | (with_reducible first | exact HI146.out | apply IsS95.alloc | apply IsS95.drewN | apply IsS95.drew | apply IsS95.set_0 | apply IsS95.set_1 | apply IsS95.set_2 | apply IsS95.set_3 | refine IsS95.far ?_ zal.out _ | refine IsS95.far ?_ zat.out _) | exact HI146.out)) hb); clear hb hbox hg; have zcb := zbs.out; have zcc := zbr.out; have zcd := zbu.out; have zce := zbt.out; have zcf := zbw.out; have zcg := zbv.out; obtain ⟨zch, zci⟩ := M.bc2 (w := w60) (a := .string (⟨#[]⟩ : ByteArray)) (b := .string (⟨#[]⟩ : ByteArray)) zbo.out; obtain ⟨zcj, zck⟩ := M.bf2 zbo; have zcl := zas.out; have zcm := zar.out; have zcn := zau.out; have zco := zat.out; obtain ⟨zcp, zcq, zcr⟩ := M.bc3 (w := w60) (a := .int .i64 zaA) (b := zbj) (c := zbk) zao.out; obtain ⟨zcs, zct, zcu⟩ := M.bf3 zao) | ((with_reducible refine gate_callee (f := 26) rfl ?_); refine M.goes (some 44) Tryd.func26 #[.pointer (some ⟨g146, 0, none⟩), .int .i64 2048] rfl ?_; (with_reducible refine (scan_Scan_Text.calls g146 t164 t165 t166 t167 2048 t185 t186 t187 t188 t189 w _ ?side1 ?side2 A57.out).mono ?_); (case side1 => repeat (first | (with_reducible first | exact HI146.out | apply IsS95.alloc | apply IsS95.drewN | apply IsS95.drew | apply IsS95.set_0 | apply IsS95.set_1 | apply IsS95.set_2 | apply IsS95.set_3 | refine IsS95.far ?_ zal.out _ | refine IsS95.far ?_ zat.out _ | refine IsS95.far ?_ zbv.out _) | exact HI146.out)); (case side2 => repeat (first | (with_reducible first | exact HB.out | apply below_alloc | apply pw_below_drewN | apply below_drew1 | refine below_set ?_ (IsS95.ge HI146.out) | refine below_set ?_ zak.out | refine below_set ?_ zaq.out | refine below_set ?_ zbq.out) | exact HB.out)); rintro e w68 ⟨rfl, hi, hb, hk⟩; refine ⟨_, rfl, ?_⟩; replace zbl := Aside0.mk (Kd.R_mono (Kd.R_keep (IsS95.apart (show IsS95 w _ g146 t164 t165 t166 t167 from by repeat (first | (with_reducible first | exact HI146.out | apply IsS95.alloc | apply IsS95.drewN | apply IsS95.drew | apply IsS95.set_0 | apply IsS95.set_1 | apply IsS95.set_2 | apply IsS95.set_3 | refine IsS95.far ?_ zal.out _ | refine IsS95.far ?_ zat.out _ | refine IsS95.far ?_ zbv.out _) | exact HI146.out)) (by (with_reducible repeat (first | apply Kd.R_alloc | apply Kd.R_drewN | apply Kd.R_drew)); exact (Kd.R_mono (Kd.R_far (p := ⟨zbn, 1, none⟩) (Kd.R_far (p := ⟨zbn, 0, none⟩) (Kd.R_mono zbl.out (fun k_ hk => (⟨hk, hk.2⟩ : _ ∧ k_ ≠ zbn))) (fun _ hk => hk.2) (.string t163)) (fun _ hk => hk.2) (.string (⟨#[]⟩ : ByteArray))) (fun _ h_ => h_.1))) (by decide)) hk (fun _ h => h.2)) (fun _ h => h.1)); replace zbm := Aside0.mk (Kd.R_mono (Kd.R_keep (IsS95.apart (show IsS95 w _ g146 t164 t165 t166 t167 from by repeat (first | (with_reducible first | exact HI146.out | apply IsS95.alloc | apply IsS95.drewN | apply IsS95.drew | apply IsS95.set_0 | apply IsS95.set_1 | apply IsS95.set_2 | apply IsS95.set_3 | refine IsS95.far ?_ zal.out _ | refine IsS95.far ?_ zat.out _ | refine IsS95.far ?_ zbv.out _) | exact HI146.out)) (by (with_reducible repeat (first | apply Kd.R_alloc | apply Kd.R_drewN | apply Kd.R_drew)); exact (Kd.R_mono (Kd.R_far (p := ⟨zbn, 1, none⟩) (Kd.R_far (p := ⟨zbn, 0, none⟩) (Kd.R_types zbm.out zbo.out (by decide)) (fun _ hk => hk.2) (.string t163)) (fun _ hk => hk.2) (.string (⟨#[]⟩ : ByteArray))) (fun _ h_ => h_.1))) (by decide)) hk (fun _ h => h.2)) (fun _ h => h.1)); replace zai := Aside0.mk (KeepBut.blk hk (g' := zah) (o := .cells #[.int .i64 zav, .slice none 0 0, .slice none 0 0] 39 (0, 0)) (by refine M.fr ?_ zbr; refine M.fr ?_ zbr; exact M.bk zai) zam.out (by simp)); replace zao := Aside0.mk (KeepBut.blk hk (g' := zan) (o := .cells #[.int .i64 zaA, zbj, zbk] 39 (0, 0)) (by refine M.fr ?_ zbt; refine M.fr ?_ zbt; exact M.bk zao) zau.out (by simp)); replace zbo := Aside0.mk (KeepBut.blk hk (g' := zbn) (o := .cells #[.string t163, .string (⟨#[]⟩ : ByteArray)] 43 (0, 0)) (by refine M.fp (cs := #[.string t163, .string (⟨#[]⟩ : ByteArray)]) ?_ 1; refine M.fp (cs := #[.string (⟨#[]⟩ : ByteArray), .string (⟨#[]⟩ : ByteArray)]) ?_ 0; exact M.bk zbo) zbw.out (by simp)); replace HB := Aside0.mk (hb); replace HI146 := Aside0.mk (hi); (try clear hb); (try clear hk); (try clear hi); obtain ⟨zcv, zcw⟩ := M.bc2 (w := w68) (a := .string t163) (b := .string (⟨#[]⟩ : ByteArray)) zbo.out; obtain ⟨zcx, zcy⟩ := M.bf2 zbo; obtain ⟨zcz, zcA, zcB⟩ := M.bc3 (w := w68) (a := .int .i64 zaA) (b := zbj) (c := zbk) zao.out; obtain ⟨zcC, zcD, zcE⟩ := M.bf3 zao) | ((with_reducible refine gate_builtin (b := .append) (xs := #[.tmp 47, .tmp 49]) rfl ?_); at_builtin; refine Kd.R_append k43 (w0 := w) w.heap.size rfl (.tmp 47) (.tmp 49) 36 43 (.agg #[(.string ⟨#[]⟩), (.string ⟨#[]⟩)]) 32 rfl Tryd.underlying36 info43 rfl (by decide) (by omega) zbj zbh (⟨t163, t185⟩ : S43) [.string t163, .string t185] (fun k_ => k_ ≠ zbn) (fun _ => False) rfl (by first | (go_simp; done) | (go_simp; rfl)) ?aP (fun _ hk => hk.elim) ?aF ?aO ?aB ?aS ?aL ?_; (case aP => exact k43_mkM _ _ _ (⟨t163, t185⟩ : S43)); (case aB => exact (by repeat (first | (with_reducible first | exact HB.out | apply below_alloc | apply pw_below_drewN | apply below_drew1 | refine below_set ?_ (IsS95.ge HI146.out) | refine below_set ?_ zak.out | refine below_set ?_ zaq.out | refine below_set ?_ zbq.out) | exact HB.out))); (case aF => exact (fun k_ hk => Kd.freshB (g := zbn) (o := .cells #[.string t163, .string t185] 43 (0, 0)) (by refine M.fp (cs := #[.string t163, .string (⟨#[]⟩ : ByteArray)]) ?_ 1; exact M.bk zbo) k_ hk)); (case aO => exact (by (with_reducible repeat (first | apply Kd.R_alloc | apply Kd.R_drewN | apply Kd.R_drew)); exact Kd.R_mono (Kd.R_far (p := ⟨zbn, 1, none⟩) (Kd.R_mono zbl.out (fun k_ hk => (⟨hk, hk.2⟩ : _ ∧ k_ ≠ zbn))) (fun _ hk => hk.2) (.string t185)) (fun _ hk => hk.1.2))); (case aS => exact (below_size (by repeat (first | (with_reducible first | exact HB.out | apply below_alloc | apply pw_below_drewN | apply below_drew1 | refine below_set ?_ (IsS95.ge HI146.out) | refine below_set ?_ zak.out | refine below_set ?_ zaq.out | refine below_set ?_ zbq.out) | exact HB.out)))); (case aL => have := LMc58.out; omega); intro v191 w71 ho hb hg hat; rw [← Ny190.out] at ho; replace zbm := Aside0.mk (Kd.R_over' (by (with_reducible repeat (first | apply Kd.R_alloc | apply Kd.R_drewN | apply Kd.R_drew)); exact (Kd.R_mono (Kd.R_far (p := ⟨zbn, 1, none⟩) (Kd.R_types zbm.out zbo.out (by decide)) (fun _ hk => hk.2) (.string t185)) (fun _ h_ => h_.1))) (Kd.R_typed (by (with_reducible repeat (first | apply Kd.R_alloc | apply Kd.R_drewN | apply Kd.R_drew)); exact (Kd.R_mono (Kd.R_far (p := ⟨zbn, 1, none⟩) (Kd.R_mono zbl.out (fun k_ hk => (⟨hk, hk.2⟩ : _ ∧ k_ ≠ zbn))) (fun _ hk => hk.2) (.string t185)) (fun _ h_ => h_.1)))) (by decide) hg); replace zai := Aside0.mk (blk_grown (g := zah) (o := .cells #[.int .i64 zav, .slice none 0 0, .slice none 0 0] 39 (0, 0)) (by refine M.fr ?_ zbr; exact M.bk zai) hg (Kd.R_ne zbl.out zai.out (by decide))); replace zao := Aside0.mk (blk_grown (g := zan) (o := .cells #[.int .i64 zaA, zbj, zbk] 39 (0, 0)) (by refine M.fr ?_ zbt; exact M.bk zao) hg (Kd.R_ne zbl.out zao.out (by decide))); replace HI146 := Aside0.mk (IsS95.grown (by first | exact HI146.out | exact IsS95.far HI146.out zal.out _ | exact IsS95.far HI146.out zat.out _ | exact IsS95.far HI146.out zbv.out _ | (repeat (first | (with_reducible first | exact HI146.out | apply IsS95.alloc | apply IsS95.drewN | apply IsS95.drew | apply IsS95.set_0 | apply IsS95.set_1 | apply IsS95.set_2 | apply IsS95.set_3 | refine IsS95.far ?_ zal.out _ | refine IsS95.far ?_ zat.out _ | refine IsS95.far ?_ zbv.out _) | exact HI146.out))) hg (IsS95.own_ne HI146.out zbl.out (by decide))); replace zbo := Aside0.mk (blk_grown (g := zbn) (o := .cells #[.string t163, .string t185] 43 (0, 0)) (by refine M.fp (cs := #[.string t163, .string (⟨#[]⟩ : ByteArray)]) ?_ 1; exact M.bk zbo) hg (Kd.R_away zbl.out (fun _ hk => hk.2))); replace HB := Aside0.mk (hb); have HO192 := Aside0.mk (ho); clear zbl; clear ho hb hg hat; obtain ⟨Ao72, co72, eo72⟩ := Kd.R_slice HO192.out; subst eo72; obtain ⟨zcF, zcG, zcH⟩ := M.bc3 (w := w71) (a := .int .i64 zaA) (b := zbj) (c := zbk) zao.out; obtain ⟨zcI, zcJ, zcK⟩ := M.bf3 zao))
        go_roundg k2
        case measure => have := HJ3.out; have := HK2.out; omega
        case rel => exact ⟨(wrap64 (x25_2 + 1)), (t186), (t187), (t188), (t189), (y190), (zbi), (.slice Ao72 y190.length co72), (zbk), M.eqv, H', ⟨by have := HJ3.out; have := HK2.out; omega⟩, ⟨by (with_reducible repeat (first | apply Kd.R_alloc | apply Kd.R_drewN | apply Kd.R_drew)); exact Kd.R_mono (Kd.R_far (p := ⟨zan, 1, none⟩) (Kd.R_types HO192.out zao.out (by decide)) (fun _ hk => hk.2) (.slice Ao72 y190.length co72)) (fun _ hk => trivial)⟩, ⟨by (with_reducible repeat (first | apply Kd.R_alloc | apply Kd.R_drewN | apply Kd.R_drew)); exact Kd.R_mono (Kd.R_far (p := ⟨zan, 1, none⟩) (Kd.R_types zbm.out zao.out (by decide)) (fun _ hk => hk.2) (.slice Ao72 y190.length co72)) (fun _ hk => trivial)⟩, ⟨by refine M.fr ?_ zar; exact M.bk zai⟩, ⟨by refine M.fp (cs := #[.int .i64 zaA, zbj, zbk]) ?_ 1; exact M.bk zao⟩, ⟨by repeat (first | (with_reducible first | exact HI146.out | apply IsS95.alloc | apply IsS95.drewN | apply IsS95.drew | apply IsS95.set_0 | apply IsS95.set_1 | apply IsS95.set_2 | apply IsS95.set_3 | refine IsS95.far ?_ zal.out _ | refine IsS95.far ?_ zat.out _ | refine IsS95.far ?_ zbv.out _) | exact HI146.out)⟩, ⟨by repeat (first | (with_reducible first | exact HB.out | apply below_alloc | apply pw_below_drewN | apply below_drew1 | refine below_set ?_ (IsS95.ge HI146.out) | refine below_set ?_ zak.out | refine below_set ?_ zaq.out | refine below_set ?_ zbq.out) | exact HB.out)⟩⟩
       ·exact M.nf c58 H
     ·rw [if_neg c28] at H
      have c28b0 := decide_eq_false c28
      clear c28
      replace H := Option.bind_eq_some_iff.mp H
      obtain ⟨⟨t193, t194, t195, t196, t197⟩, A740, H⟩ := H
      replace H : (if t193 = 0 then ((chunk_Check.f zaA zbh zbi).bind fun t198 => (if t198 = 0 then (some (zaA, zbh, zbi, 0)) else (some (0, ([] : List (S43)), ([] : List Int), 3)))) else (some (0, ([] : List (S43)), ([] : List Int), 3))) = some (r1, r2, r3, r4) := H
      have A74 := Aside0.mk A740
      clear A740
      by_cases c75 : t193 = 0
      ·rw [if_pos c75] at H
       have c75b0 : (t193 == 0) = true := beq_iff_eq.mpr c75
       have c75b1 : (t193 != 0) = false := bne_eq_false_iff_eq.mpr c75
       clear c75
       replace H := Option.bind_eq_some_iff.mp H
       obtain ⟨t198, A760, H⟩ := H
       replace H : (if t198 = 0 then (some (zaA, zbh, zbi, 0)) else (some (0, ([] : List (S43)), ([] : List Int), 3))) = some (r1, r2, r3, r4) := H
       have A76 := Aside0.mk A760
       clear A760
       by_cases c77 : t198 = 0
       ·rw [if_pos c77] at H
        have c77b0 : (t198 == 0) = true := beq_iff_eq.mpr c77
        have c77b1 : (t198 != 0) = false := bne_eq_false_iff_eq.mpr c77
        clear c77
        simp only [Option.some.injEq, Prod.mk.injEq] at H
        obtain ⟨rfl, rfl, rfl, rfl⟩ := H
        go_wp2_with (first | ((with_reducible refine gate_callee (f := 28) rfl ?_); refine M.goes (some 54) Tryd.func28 #[.pointer (some ⟨g146, 0, none⟩)] rfl ?_; (with_reducible refine (scan_Scan_End.calls g146 zbd zbe zbf zbg t193 t194 t195 t196 t197 w _ ?side1 ?side2 A74.out).mono ?_); (case side1 => repeat (first | (with_reducible first | exact HI146.out | apply IsS95.alloc | apply IsS95.drewN | apply IsS95.drew | apply IsS95.set_0 | apply IsS95.set_1 | apply IsS95.set_2 | apply IsS95.set_3 | refine IsS95.far ?_ zal.out _ | refine IsS95.far ?_ zat.out _) | exact HI146.out)); (case side2 => repeat (first | (with_reducible first | exact HB.out | apply below_alloc | apply pw_below_drewN | apply below_drew1 | refine below_set ?_ (IsS95.ge HI146.out) | refine below_set ?_ zak.out | refine below_set ?_ zaq.out) | exact HB.out)); rintro e w78 ⟨rfl, hi, hb, hk⟩; refine ⟨_, rfl, ?_⟩; replace zbl := Aside0.mk (Kd.R_mono (Kd.R_keep (IsS95.apart (show IsS95 w _ g146 zbd zbe zbf zbg from by repeat (first | (with_reducible first | exact HI146.out | apply IsS95.alloc | apply IsS95.drewN | apply IsS95.drew | apply IsS95.set_0 | apply IsS95.set_1 | apply IsS95.set_2 | apply IsS95.set_3 | refine IsS95.far ?_ zal.out _ | refine IsS95.far ?_ zat.out _) | exact HI146.out)) (M.ro zbl) (by decide)) hk (fun _ h => h.2)) (fun _ h => h.1)); replace zbm := Aside0.mk (Kd.R_mono (Kd.R_keep (IsS95.apart (show IsS95 w _ g146 zbd zbe zbf zbg from by repeat (first | (with_reducible first | exact HI146.out | apply IsS95.alloc | apply IsS95.drewN | apply IsS95.drew | apply IsS95.set_0 | apply IsS95.set_1 | apply IsS95.set_2 | apply IsS95.set_3 | refine IsS95.far ?_ zal.out _ | refine IsS95.far ?_ zat.out _) | exact HI146.out)) (M.ro zbm) (by decide)) hk (fun _ h => h.2)) (fun _ h => h.1)); replace zai := Aside0.mk (KeepBut.blk hk (g' := zah) (o := .cells #[.int .i64 zav, .slice none 0 0, .slice none 0 0] 39 (0, 0)) (M.bk zai) zam.out (by simp)); replace zao := Aside0.mk (KeepBut.blk hk (g' := zan) (o := .cells #[.int .i64 zaA, zbj, zbk] 39 (0, 0)) (M.bk zao) zau.out (by simp)); replace HB := Aside0.mk (hb); replace HI146 := Aside0.mk (hi); (try clear hb); (try clear hk); (try clear hi); have zcL := zas.out; have zcM := zar.out; have zcN := zau.out; have zcO := zat.out; obtain ⟨zcP, zcQ, zcR⟩ := M.bc3 (w := w78) (a := .int .i64 zaA) (b := zbj) (c := zbk) zao.out; obtain ⟨zcS, zcT, zcU⟩ := M.bf3 zao; obtain ⟨Ao82, co82, eo82⟩ := Kd.R_slice zbl.out; subst eo82; obtain ⟨Ao83, co83, eo83⟩ := Kd.R_slice zbm.out; subst eo83) | (go_at_call 29; (with_reducible refine (chunk_Check.calls zaA _ _ zbh _ _ zbi t198 _ ?side1 ?side2 ?side3 ?side4 A76.out).mono ?_); (case side1 => repeat (first | exact (Kd.R_reads' zbl.out).2.2 | (with_reducible refine Kd.C_alloc ?_ _) | (with_reducible refine Kd.C_drewN ?_ _) | (with_reducible refine Kd.C_drew ?_))); (case side2 => exact (Kd.R_reads' zbl.out).2.1); (case side3 => repeat (first | exact (Kd.R_reads' zbm.out).2.2 | (with_reducible refine Kd.C_alloc ?_ _) | (with_reducible refine Kd.C_drewN ?_ _) | (with_reducible refine Kd.C_drew ?_))); (case side4 => exact (Kd.R_reads' zbm.out).2.1); rintro e w84 ⟨rfl, hb⟩; replace zbl := M.roB zbl hb; replace zbm := M.roB zbm hb; replace zai := M.bkB zai hb; replace zao := M.bkB zao hb; replace HB := Aside0.mk (below_step (by repeat (first | (with_reducible first | exact HB.out | apply below_alloc | apply pw_below_drewN | apply below_drew1 | refine below_set ?_ (IsS95.ge HI146.out) | refine below_set ?_ zak.out | refine below_set ?_ zaq.out) | exact HB.out)) hb); replace HI146 := Aside0.mk (IsS95.below (by repeat (first | (with_reducible first | exact HI146.out | apply IsS95.alloc | apply IsS95.drewN | apply IsS95.drew | apply IsS95.set_0 | apply IsS95.set_1 | apply IsS95.set_2 | apply IsS95.set_3 | refine IsS95.far ?_ zal.out _ | refine IsS95.far ?_ zat.out _) | exact HI146.out)) hb); (try clear hb); (try clear hb2); (try clear hk); (try clear hi); obtain ⟨zcV, zcW, zcX⟩ := M.bc3 (w := w84) (a := .int .i64 zaA) (b := .slice Ao82 zbh.length co82) (c := .slice Ao83 zbi.length co83) zao.out; obtain ⟨zcY, zcZ, zc0⟩ := M.bf3 zao; have zc1 := zam.out; have zc2 := zal.out; obtain ⟨zc3, zc4, zc5⟩ := M.bc3 (w := w84) (a := .int .i64 zav) (b := .slice none 0 0) (c := .slice none 0 0) zai.out; obtain ⟨zc6, zc7, zc8⟩ := M.bf3 zai))
        refine bodyPost_ret (results_ct rfl _ _ zah 39 #[.int .i64 zaA, .slice Ao82 zbh.length co82, .slice Ao83 zbi.length co83] (0, 0) _ rfl (by refine M.fp (cs := #[.int .i64 zaA, .slice Ao82 zbh.length co82, .slice none 0 0]) ?_ 2; refine M.fp (cs := #[.int .i64 zaA, .slice none 0 0, .slice none 0 0]) ?_ 1; refine M.fp (cs := #[.int .i64 zav, .slice none 0 0, .slice none 0 0]) ?_ 0; exact M.bk zai) Tryd.underlying39 rfl (by kernel_rfl)) rfl ?_
        exact ⟨_, _, M.eqe, by (with_reducible repeat (first | apply Kd.R_alloc | apply Kd.R_drewN | apply Kd.R_drew)); exact Kd.R_mono (Kd.R_far (p := ⟨zah, 2, none⟩) (Kd.R_far (p := ⟨zah, 1, none⟩) (Kd.R_far (p := ⟨zah, 0, none⟩) (Kd.R_types zbl.out zai.out (by decide)) (fun _ hk => hk.2) (.int .i64 zaA)) (fun _ hk => hk.2) (.slice Ao82 zbh.length co82)) (fun _ hk => hk.2) (.slice Ao83 zbi.length co83)) (fun _ hk => trivial), by (with_reducible repeat (first | apply Kd.R_alloc | apply Kd.R_drewN | apply Kd.R_drew)); exact Kd.R_mono (Kd.R_far (p := ⟨zah, 2, none⟩) (Kd.R_far (p := ⟨zah, 1, none⟩) (Kd.R_far (p := ⟨zah, 0, none⟩) (Kd.R_types zbm.out zai.out (by decide)) (fun _ hk => hk.2) (.int .i64 zaA)) (fun _ hk => hk.2) (.slice Ao82 zbh.length co82)) (fun _ hk => hk.2) (.slice Ao83 zbi.length co83)) (fun _ hk => trivial), by repeat (first | (with_reducible first | exact HB.out | apply below_alloc | apply pw_below_drewN | apply below_drew1 | refine below_set ?_ (IsS95.ge HI146.out) | refine below_set ?_ zak.out | refine below_set ?_ zaq.out) | exact HB.out)⟩
       ·rw [if_neg c77] at H
        have c77b0 : (t198 == 0) = false := beq_eq_false_iff_ne.mpr c77
        have c77b1 : (t198 != 0) = true := bne_iff_ne.mpr c77
        simp only [Option.some.injEq, Prod.mk.injEq] at H
        obtain ⟨rfl, rfl, rfl, rfl⟩ := H
        go_wp2_with (first | ((with_reducible refine gate_callee (f := 28) rfl ?_); refine M.goes (some 54) Tryd.func28 #[.pointer (some ⟨g146, 0, none⟩)] rfl ?_; (with_reducible refine (scan_Scan_End.calls g146 zbd zbe zbf zbg t193 t194 t195 t196 t197 w _ ?side1 ?side2 A74.out).mono ?_); (case side1 => repeat (first | (with_reducible first | exact HI146.out | apply IsS95.alloc | apply IsS95.drewN | apply IsS95.drew | apply IsS95.set_0 | apply IsS95.set_1 | apply IsS95.set_2 | apply IsS95.set_3 | refine IsS95.far ?_ zal.out _ | refine IsS95.far ?_ zat.out _) | exact HI146.out)); (case side2 => repeat (first | (with_reducible first | exact HB.out | apply below_alloc | apply pw_below_drewN | apply below_drew1 | refine below_set ?_ (IsS95.ge HI146.out) | refine below_set ?_ zak.out | refine below_set ?_ zaq.out) | exact HB.out)); rintro e w88 ⟨rfl, hi, hb, hk⟩; refine ⟨_, rfl, ?_⟩; replace zbl := Aside0.mk (Kd.R_mono (Kd.R_keep (IsS95.apart (show IsS95 w _ g146 zbd zbe zbf zbg from by repeat (first | (with_reducible first | exact HI146.out | apply IsS95.alloc | apply IsS95.drewN | apply IsS95.drew | apply IsS95.set_0 | apply IsS95.set_1 | apply IsS95.set_2 | apply IsS95.set_3 | refine IsS95.far ?_ zal.out _ | refine IsS95.far ?_ zat.out _) | exact HI146.out)) (M.ro zbl) (by decide)) hk (fun _ h => h.2)) (fun _ h => h.1)); replace zbm := Aside0.mk (Kd.R_mono (Kd.R_keep (IsS95.apart (show IsS95 w _ g146 zbd zbe zbf zbg from by repeat (first | (with_reducible first | exact HI146.out | apply IsS95.alloc | apply IsS95.drewN | apply IsS95.drew | apply IsS95.set_0 | apply IsS95.set_1 | apply IsS95.set_2 | apply IsS95.set_3 | refine IsS95.far ?_ zal.out _ | refine IsS95.far ?_ zat.out _) | exact HI146.out)) (M.ro zbm) (by decide)) hk (fun _ h => h.2)) (fun _ h => h.1)); replace zai := Aside0.mk (KeepBut.blk hk (g' := zah) (o := .cells #[.int .i64 zav, .slice none 0 0, .slice none 0 0] 39 (0, 0)) (M.bk zai) zam.out (by simp)); replace zao := Aside0.mk (KeepBut.blk hk (g' := zan) (o := .cells #[.int .i64 zaA, zbj, zbk] 39 (0, 0)) (M.bk zao) zau.out (by simp)); replace HB := Aside0.mk (hb); replace HI146 := Aside0.mk (hi); (try clear hb); (try clear hk); (try clear hi); have zc9 := zas.out; have zda := zar.out; have zdb := zau.out; have zdc := zat.out; obtain ⟨zdd, zde, zdf⟩ := M.bc3 (w := w88) (a := .int .i64 zaA) (b := zbj) (c := zbk) zao.out; obtain ⟨zdg, zdh, zdi⟩ := M.bf3 zao; obtain ⟨Ao92, co92, eo92⟩ := Kd.R_slice zbl.out; subst eo92; obtain ⟨Ao93, co93, eo93⟩ := Kd.R_slice zbm.out; subst eo93) | (go_at_call 29; (with_reducible refine (chunk_Check.calls zaA _ _ zbh _ _ zbi t198 _ ?side1 ?side2 ?side3 ?side4 A76.out).mono ?_); (case side1 => repeat (first | exact (Kd.R_reads' zbl.out).2.2 | (with_reducible refine Kd.C_alloc ?_ _) | (with_reducible refine Kd.C_drewN ?_ _) | (with_reducible refine Kd.C_drew ?_))); (case side2 => exact (Kd.R_reads' zbl.out).2.1); (case side3 => repeat (first | exact (Kd.R_reads' zbm.out).2.2 | (with_reducible refine Kd.C_alloc ?_ _) | (with_reducible refine Kd.C_drewN ?_ _) | (with_reducible refine Kd.C_drew ?_))); (case side4 => exact (Kd.R_reads' zbm.out).2.1); rintro e w94 ⟨rfl, hb⟩; replace zbl := M.roB zbl hb; replace zbm := M.roB zbm hb; replace zai := M.bkB zai hb; replace zao := M.bkB zao hb; replace HB := Aside0.mk (below_step (by repeat (first | (with_reducible first | exact HB.out | apply below_alloc | apply pw_below_drewN | apply below_drew1 | refine below_set ?_ (IsS95.ge HI146.out) | refine below_set ?_ zak.out | refine below_set ?_ zaq.out) | exact HB.out)) hb); replace HI146 := Aside0.mk (IsS95.below (by repeat (first | (with_reducible first | exact HI146.out | apply IsS95.alloc | apply IsS95.drewN | apply IsS95.drew | apply IsS95.set_0 | apply IsS95.set_1 | apply IsS95.set_2 | apply IsS95.set_3 | refine IsS95.far ?_ zal.out _ | refine IsS95.far ?_ zat.out _) | exact HI146.out)) hb); (try clear hb); (try clear hb2); (try clear hk); (try clear hi); have zdj := zam.out; have zdk := zal.out; obtain ⟨zdl, zdm, zdn⟩ := M.bc3 (w := w94) (a := .int .i64 zav) (b := .slice none 0 0) (c := .slice none 0 0) zai.out; obtain ⟨zdo, zdp, zdq⟩ := M.bf3 zai))
        refine bodyPost_ret (results_ct rfl _ _ zah 39 #[.int .i64 0, .slice none 0 0, .slice none 0 0] (0, 0) _ rfl (by refine M.fp (cs := #[.int .i64 0, .slice none 0 0, .slice none 0 0]) ?_ 2; refine M.fp (cs := #[.int .i64 0, .slice none 0 0, .slice none 0 0]) ?_ 1; refine M.fp (cs := #[.int .i64 zav, .slice none 0 0, .slice none 0 0]) ?_ 0; exact M.bk zai) Tryd.underlying39 rfl (by kernel_rfl)) rfl ?_
        exact ⟨_, _, M.eqe, M.nl, M.nl, by repeat (first | (with_reducible first | exact HB.out | apply below_alloc | apply pw_below_drewN | apply below_drew1 | refine below_set ?_ (IsS95.ge HI146.out) | refine below_set ?_ zak.out | refine below_set ?_ zaq.out) | exact HB.out)⟩
      ·rw [if_neg c75] at H
       have c75b0 : (t193 == 0) = false := beq_eq_false_iff_ne.mpr c75
       have c75b1 : (t193 != 0) = true := bne_iff_ne.mpr c75
       simp only [Option.some.injEq, Prod.mk.injEq] at H
       obtain ⟨rfl, rfl, rfl, rfl⟩ := H
       go_wp2_with (first | ((with_reducible refine gate_callee (f := 28) rfl ?_); refine M.goes (some 54) Tryd.func28 #[.pointer (some ⟨g146, 0, none⟩)] rfl ?_; (with_reducible refine (scan_Scan_End.calls g146 zbd zbe zbf zbg t193 t194 t195 t196 t197 w _ ?side1 ?side2 A74.out).mono ?_); (case side1 => repeat (first | (with_reducible first | exact HI146.out | apply IsS95.alloc | apply IsS95.drewN | apply IsS95.drew | apply IsS95.set_0 | apply IsS95.set_1 | apply IsS95.set_2 | apply IsS95.set_3 | refine IsS95.far ?_ zal.out _ | refine IsS95.far ?_ zat.out _) | exact HI146.out)); (case side2 => repeat (first | (with_reducible first | exact HB.out | apply below_alloc | apply pw_below_drewN | apply below_drew1 | refine below_set ?_ (IsS95.ge HI146.out) | refine below_set ?_ zak.out | refine below_set ?_ zaq.out) | exact HB.out)); rintro e w97 ⟨rfl, hi, hb, hk⟩; refine ⟨_, rfl, ?_⟩; replace zbl := Aside0.mk (Kd.R_mono (Kd.R_keep (IsS95.apart (show IsS95 w _ g146 zbd zbe zbf zbg from by repeat (first | (with_reducible first | exact HI146.out | apply IsS95.alloc | apply IsS95.drewN | apply IsS95.drew | apply IsS95.set_0 | apply IsS95.set_1 | apply IsS95.set_2 | apply IsS95.set_3 | refine IsS95.far ?_ zal.out _ | refine IsS95.far ?_ zat.out _) | exact HI146.out)) (M.ro zbl) (by decide)) hk (fun _ h => h.2)) (fun _ h => h.1)); replace zbm := Aside0.mk (Kd.R_mono (Kd.R_keep (IsS95.apart (show IsS95 w _ g146 zbd zbe zbf zbg from by repeat (first | (with_reducible first | exact HI146.out | apply IsS95.alloc | apply IsS95.drewN | apply IsS95.drew | apply IsS95.set_0 | apply IsS95.set_1 | apply IsS95.set_2 | apply IsS95.set_3 | refine IsS95.far ?_ zal.out _ | refine IsS95.far ?_ zat.out _) | exact HI146.out)) (M.ro zbm) (by decide)) hk (fun _ h => h.2)) (fun _ h => h.1)); replace zai := Aside0.mk (KeepBut.blk hk (g' := zah) (o := .cells #[.int .i64 zav, .slice none 0 0, .slice none 0 0] 39 (0, 0)) (M.bk zai) zam.out (by simp)); replace zao := Aside0.mk (KeepBut.blk hk (g' := zan) (o := .cells #[.int .i64 zaA, zbj, zbk] 39 (0, 0)) (M.bk zao) zau.out (by simp)); replace HB := Aside0.mk (hb); replace HI146 := Aside0.mk (hi); (try clear hb); (try clear hk); (try clear hi); have zdr := zar.out; have zds := zas.out; have zdt := zam.out; have zdu := zal.out; obtain ⟨zdv, zdw, zdx⟩ := M.bc3 (w := w97) (a := .int .i64 zav) (b := .slice none 0 0) (c := .slice none 0 0) zai.out; obtain ⟨zdy, zdz, zdA⟩ := M.bf3 zai))
       refine bodyPost_ret (results_ct rfl _ _ zah 39 #[.int .i64 0, .slice none 0 0, .slice none 0 0] (0, 0) _ rfl (by refine M.fp (cs := #[.int .i64 0, .slice none 0 0, .slice none 0 0]) ?_ 2; refine M.fp (cs := #[.int .i64 0, .slice none 0 0, .slice none 0 0]) ?_ 1; refine M.fp (cs := #[.int .i64 zav, .slice none 0 0, .slice none 0 0]) ?_ 0; exact M.bk zai) Tryd.underlying39 rfl (by kernel_rfl)) rfl ?_
       exact ⟨_, _, M.eqe, M.nl, M.nl, by repeat (first | (with_reducible first | exact HB.out | apply below_alloc | apply pw_below_drewN | apply below_drew1 | refine below_set ?_ (IsS95.ge HI146.out) | refine below_set ?_ zak.out | refine below_set ?_ zaq.out) | exact HB.out)⟩
def chunk_Take.fin (s : ByteArray) (lv : Int) (r : List S43 × List Int × Int × Int) : Int × List S43 × List Int × Int :=
  if M.xend s r.2.2.1 r.2.2.2 = 0 ∧ chunk_fits.wrong lv r.1 r.2.1 = 0 then (lv, r.1, r.2.1, 0) else (0, [], [], 3)
def chunk_fits.rest (s : ByteArray) (lv p er : Int) : List S43 × List Int × Int × Int := chunk_fits.read s lv (M.xnum s p er 8).1.toNat (M.xnum s p er 8).2.1 (M.xnum s p er 8).2.2
def chunk_Take.res (s : ByteArray) : Int × List S43 × List Int × Int :=
  if (M.xbyte s 0 0).1 = 76 then chunk_Take.fin s 0 (chunk_fits.rest s 0 (M.xbyte s 0 0).2.1 (M.xbyte s 0 0).2.2)
  else if (M.xbyte s 0 0).1 = 73 then (if (M.xnum s (M.xbyte s 0 0).2.1 (M.xbyte s 0 0).2.2 40).1 = 0 then (0, [], [], 3)
    else chunk_Take.fin s (M.xnum s (M.xbyte s 0 0).2.1 (M.xbyte s 0 0).2.2 40).1 (chunk_fits.rest s (M.xnum s (M.xbyte s 0 0).2.1 (M.xbyte s 0 0).2.2 40).1 (M.xnum s (M.xbyte s 0 0).2.1 (M.xbyte s 0 0).2.2 40).2.1 (M.xnum s (M.xbyte s 0 0).2.1 (M.xbyte s 0 0).2.2 40).2.2))
  else (0, [], [], 3)
def chunk_Take.f (a0 : ByteArray) : Option (Int × List S43 × List Int × Int) := if a0.size ≤ 9223372036854775806 then some (chunk_Take.res a0) else none
theorem chunk_Take.loop (s : ByteArray) (lv n : Int) (hn : n ≤ 8) (d : Nat) : ∀ (i : Nat) (p er : Int) (es : List S43) (cs : List Int), (i : Int) + d = n → M.sok s p → es.length ≤ 100 + i → cs.length ≤ 100 + i →
    chunk_Take_p.l0 (d + 1) n (i : Int) s p er true lv es cs = some (chunk_Take.fin s lv (es ++ (chunk_fits.read s lv d p er).1, cs ++ (chunk_fits.read s lv d p er).2.1, (chunk_fits.read s lv d p er).2.2.1, (chunk_fits.read s lv d p er).2.2.2)) := by
 induction d with
 | zero =>
  intro i p er es cs hi hs he hc
  rw [chunk_Take_p.l0, if_neg (by omega), scan_Scan_End.eq, Option.bind_some]
  simp only [chunk_fits.read, List.append_nil]
  unfold chunk_Take.fin chunk_Check.f
  by_cases h0 : M.xend s p er = 0
  ·rw [if_pos h0, if_pos ⟨by omega, by omega⟩, Option.bind_some]
   by_cases h1 : chunk_fits.wrong lv es cs = 0
   ·rw [if_pos h1, if_pos ⟨h0, h1⟩]
   ·rw [if_neg h1, if_neg (fun z => h1 z.2)]
  ·rw [if_neg h0, if_neg (fun z => h0 z.1)]
 | succ d ih =>
  intro i p er es cs hi hs he hc
  have hk := M.xtext_ok s er 64 hs
  have hi1 : wrap64 ((i : Int) + 1) = ((i + 1 : Nat) : Int) := by rw [M.wrap64_id (by omega) (by omega)]; omega
  rw [chunk_Take_p.l0, if_pos (by omega), hi1]
  unfold scan_Scan_Text.f
  rw [if_pos rfl, if_pos ⟨hs, by decide⟩, Option.bind_some]
  simp only
  by_cases hl : lv > 0
  ·have hv := M.xfix_ok s (M.xtext s p er 64).2.2 32 hk
   have hm := M.xnum_ok s (M.xfix s (M.xtext s p er 64).2.1 (M.xtext s p er 64).2.2 32).2.2 2147483648 hv
   unfold scan_Scan_Fix.f scan_Scan_take.f
   rw [if_pos hl, if_pos rfl, if_pos ⟨hk, by decide, by decide⟩, Option.bind_some]
   simp only
   rw [scan_Scan_Num.eq _ _ _ _ hv (by decide), Option.bind_some]
   simp only
   rw [if_pos (by omega), if_pos (by omega), ih (i + 1) _ _ _ _ (by omega) hm (by simp; omega) (by simp; omega)]
   simp only [chunk_fits.read, if_pos hl, List.append_assoc, List.singleton_append]
  ·have hv := M.xtext_ok s (M.xtext s p er 64).2.2 2048 hk
   rw [if_neg hl]
   rw [if_pos trivial, if_pos ⟨hk, by decide⟩, Option.bind_some]
   simp only
   rw [if_pos (by omega), ih (i + 1) _ _ _ _ (by omega) hv (by simp; omega) (by omega)]
   simp only [chunk_fits.read, if_neg hl, List.append_assoc, List.singleton_append]
theorem chunk_Take.ev (s : ByteArray) (r : Int × List S43 × List Int × Int) (h : chunk_Take.f s = some r) : ∃ k, chunk_Take_p.f k s = some r := by
 unfold chunk_Take.f at h
 split at h
 case isFalse => cases h
 case isTrue hz =>
  have h0 : M.sok s 0 := ⟨by decide, by omega, by omega⟩
  have hb := M.xbyte_ok s 0 h0
  have hl := M.xnum_ok s (M.xbyte s 0 0).2.2 40 hb
  have hj : ∀ (lv p er : Int), M.sok s p → ∃ k, chunk_Take_p.j0 k s p er true lv = some (chunk_Take.fin s lv (chunk_fits.rest s lv p er)) := by
   intro lv p er hs
   have hr := M.xnum_range s (er := er) hs (most := 8) (by decide) (by decide)
   refine ⟨(M.xnum s p er 8).1.toNat + 1 + 1, ?_⟩
   rw [chunk_Take_p.j0, scan_Scan_Num.eq _ _ _ _ hs (by decide), Option.bind_some]
   have := chunk_Take.loop s lv (M.xnum s p er 8).1 hr.2 (M.xnum s p er 8).1.toNat 0 (M.xnum s p er 8).2.1 (M.xnum s p er 8).2.2 [] [] (by omega) (M.xnum_ok s er 8 hs) (by simp) (by simp)
   simp only [List.nil_append] at this
   exact this
  rw [← h]
  unfold chunk_Take_p.f scan_New.f scan_Scan_Byte.f chunk_Take.res
  simp only [Option.bind_some]
  simp only [if_true, if_pos h0, Option.bind_some]
  by_cases c1 : (M.xbyte s 0 0).1 = 76
  ·obtain ⟨k, hk⟩ := hj 0 _ (M.xbyte s 0 0).2.2 hb
   exact ⟨k, by rw [if_pos c1, if_pos c1]; exact hk⟩
  ·by_cases c2 : (M.xbyte s 0 0).1 = 73
   ·by_cases c3 : (M.xnum s (M.xbyte s 0 0).2.1 (M.xbyte s 0 0).2.2 40).1 = 0
    ·refine ⟨0, ?_⟩
     rw [if_neg c1, if_pos c2, if_neg c1, if_pos c2, scan_Scan_Num.eq _ _ _ _ hb (by decide), Option.bind_some]
     simp only
     rw [if_pos c3, if_pos c3]
    ·obtain ⟨k, hk⟩ := hj (M.xnum s (M.xbyte s 0 0).2.1 (M.xbyte s 0 0).2.2 40).1 _ (M.xnum s (M.xbyte s 0 0).2.1 (M.xbyte s 0 0).2.2 40).2.2 hl
     refine ⟨k, ?_⟩
     rw [if_neg c1, if_pos c2, if_neg c1, if_pos c2, scan_Scan_Num.eq _ _ _ _ hb (by decide), Option.bind_some]
     simp only
     rw [if_neg c3, if_neg c3]
     exact hk
   ·exact ⟨0, by rw [if_neg c1, if_neg c2, if_neg c1, if_neg c2]⟩
theorem chunk_Take.calls (a0 : ByteArray) (r1 : Int) (r2 : List (S43)) (r3 : List Int) (r4 : Int) (w : World) (h : chunk_Take.f a0 = some (r1, r2, r3, r4)) :
    Calls Tryd.prog 11 #[.string a0] w fun e w' => ∃ v1_ v2_ : Value, e = .returned (.tuple #[.agg #[.int .i64 r1, v1_, v2_], .int .i64 r4]) ∧ Kd.R k43 43 w' w.heap.size (fun _ => True) v1_ r2 ∧ Kd.R (Kd.int .i64) 3 w' w.heap.size (fun _ => True) v2_ r3 ∧ Below w.heap.size w w' := by
 obtain ⟨k, hk⟩ := chunk_Take.ev _ _ h
 exact chunk_Take_p.calls (k := k) (w := w) (h := hk)
theorem quad_Take.size_ : (Tryd.prog.info? 45).map (·.size) = some 4 := by kernel_rfl
def quad_Take.st (s : ByteArray) : Nat → Int × Int
  | 0 => (1, 0)
  | k + 1 => ((M.xfix s (quad_Take.st s k).1 (quad_Take.st s k).2 32).2.1, (M.xfix s (quad_Take.st s k).1 (quad_Take.st s k).2 32).2.2)
def quad_Take.tx (s : ByteArray) (k : Nat) : ByteArray := (M.xfix s (quad_Take.st s k).1 (quad_Take.st s k).2 32).1
def quad_Take.res (s : ByteArray) : ByteArray × ByteArray × ByteArray × ByteArray × Int :=
  if M.xend s (quad_Take.st s 4).1 (quad_Take.st s 4).2 = 0 then (quad_Take.tx s 0, quad_Take.tx s 1, quad_Take.tx s 2, quad_Take.tx s 3, 0) else (⟨#[]⟩, ⟨#[]⟩, ⟨#[]⟩, ⟨#[]⟩, 3)
def quad_Take.f (a0 : ByteArray) : Option (ByteArray × ByteArray × ByteArray × ByteArray × Int) := if a0.size ≤ 9223372036854775806 ∧ M.xbyte a0 0 0 = (71, 1, 0) then some (quad_Take.res a0) else none
theorem quad_Take.sok_ (s : ByteArray) (hs : s.size ≤ 9223372036854775806) (h : M.xbyte s 0 0 = (71, 1, 0)) : ∀ k, M.sok s (quad_Take.st s k).1
  | 0 => by
    unfold M.xbyte at h
    rw [if_pos rfl] at h
    split at h
    · rename_i hp; exact ⟨show (0 : Int) ≤ 1 by decide, by show (1 : Int) ≤ _; omega, by omega⟩
    · injection h with h1 h2; exact absurd h1 (by decide)
  | k + 1 => M.xfix_ok s _ 32 (quad_Take.sok_ s hs h k)
theorem quad_Take.fx (s : ByteArray) (p er : Int) (hp : M.sok s p) (t : ByteArray) (p1 er1 : Int) (h : M.xfix s p er 32 = (t, p1, er1)) (g : Nat) (w0 w : World) (hI : IsS95 w0 w g s p er true) (hB : Below w0.heap.size w0 w) :
    Calls Tryd.prog 27 #[.pointer (some ⟨g, 0, none⟩), .int .i64 32] w fun e w' => e = .returned (.string t) ∧ IsS95 w0 w' g s p1 er1 true ∧ Below w0.heap.size w0 w' ∧ KeepBut w w' g none :=
  scan_Scan_Fix.calls g s p er true 32 t s p1 er1 true w0 w hI hB (by
    unfold scan_Scan_Fix.f scan_Scan_take.f
    rw [if_pos rfl, if_pos ⟨hp, by decide, by decide⟩, h])
theorem quad_Take.by_ (s : ByteArray) (hs : s.size ≤ 9223372036854775806) (h : M.xbyte s 0 0 = (71, 1, 0)) (g : Nat) (w0 w : World) (hI : IsS95 w0 w g s 0 0 true) (hB : Below w0.heap.size w0 w) :
    Calls Tryd.prog 24 #[.pointer (some ⟨g, 0, none⟩)] w fun e w' => e = .returned (.int .i64 71) ∧ IsS95 w0 w' g s 1 0 true ∧ Below w0.heap.size w0 w' ∧ KeepBut w w' g none :=
  scan_Scan_Byte.calls g s 0 0 true 71 s 1 0 true w0 w hI hB (by
    unfold scan_Scan_Byte.f
    rw [if_pos rfl, if_pos ⟨by decide, by omega, by omega⟩, h])
theorem quad_Take.en (s : ByteArray) (p er r : Int) (h : M.xend s p er = r) (g : Nat) (w0 w : World) (hI : IsS95 w0 w g s p er true) (hB : Below w0.heap.size w0 w) :
    Calls Tryd.prog 28 #[.pointer (some ⟨g, 0, none⟩)] w fun e w' => e = .returned (.int .i64 r) ∧ IsS95 w0 w' g s p r true ∧ Below w0.heap.size w0 w' ∧ KeepBut w w' g none :=
  scan_Scan_End.calls g s p er true r s p r true w0 w hI hB (by
    unfold scan_Scan_End.f
    rw [if_pos rfl]
    unfold M.xend at h
    split
    · rename_i hc; rw [if_pos hc] at h; rw [h]
    · rename_i hc; rw [if_neg hc] at h; rw [h])
theorem quad_Take.nw (s : ByteArray) (w0 w : World) (hB : Below w0.heap.size w0 w) :
    Calls Tryd.prog 23 #[.string s] w fun e w' => ∃ g, e = .returned (.pointer (some ⟨g, 0, none⟩)) ∧ IsS95 w0 w' g s 0 0 true ∧ Below w0.heap.size w0 w' ∧ Below w.heap.size w w' :=
  scan_New.calls s s 0 0 true w0 w hB rfl
set_option maxHeartbeats 8000000 in
set_option maxRecDepth 100000 in
theorem quad_Take.walk (s : ByteArray) (w : World) (hs : s.size ≤ 9223372036854775806) (h : M.xbyte s 0 0 = (71, 1, 0)) (t0 t1 t2 t3 : ByteArray) (p1 e1 p2 e2 p3 e3 p4 e4 r : Int) (h0 : M.xfix s 1 0 32 = (t0, p1, e1)) (h1 : M.xfix s p1 e1 32 = (t1, p2, e2)) (h2 : M.xfix s p2 e2 32 = (t2, p3, e3)) (h3 : M.xfix s p3 e3 32 = (t3, p4, e4)) (k0 : M.sok s 1) (k1 : M.sok s p1) (k2 : M.sok s p2) (k3 : M.sok s p3) (h4 : M.xend s p4 e4 = r) (q1 q2 q3 q4 : ByteArray) (q5 : Int) (hq : (if r = 0 then (t0, t1, t2, t3, 0) else (⟨#[]⟩, ⟨#[]⟩, ⟨#[]⟩, ⟨#[]⟩, 3)) = (q1, q2, q3, q4, q5)) :
    Calls Tryd.prog 12 #[.string s] w fun e w' => e = .returned (.tuple #[.agg #[.string q1, .string q2, .string q3, .string q4], .int .i64 q5]) ∧ Below w.heap.size w w' := by
 obtain ⟨W0, hW0⟩ : ∃ W0, w.alloc (.cells #[.string ⟨#[]⟩, .string ⟨#[]⟩, .string ⟨#[]⟩, .string ⟨#[]⟩] 45) = W0 := ⟨_, rfl⟩
 have HB0 := Aside0.mk (show Below w.heap.size w W0 from by rw [← hW0]; exact below_alloc (Below.refl _ _) _)
 have HD0 := Aside0.mk (show M.rec_ W0 w.heap.size 45 [.string ⟨#[]⟩, .string ⟨#[]⟩, .string ⟨#[]⟩, .string ⟨#[]⟩] from by rw [← hW0]; exact M.rec_new w 45 [.string ⟨#[]⟩, .string ⟨#[]⟩, .string ⟨#[]⟩, .string ⟨#[]⟩])
 have HW0 := Aside0.mk hW0
 have F0 := Aside0.mk h0
 have F1 := Aside0.mk h1
 have F2 := Aside0.mk h2
 have F3 := Aside0.mk h3
 have F4 := Aside0.mk h4
 have FB := Aside0.mk h
 have K0 := Aside0.mk k0
 have K1 := Aside0.mk k1
 have K2 := Aside0.mk k2
 have K3 := Aside0.mk k3
 clear h h0 h1 h2 h3 h4 k0 k1 k2 k3 hW0
 go_enter Tryd.func12, Tryd.ntmps12
 go_upto_region 1 with (fail)
 rw [HW0.out]
 go_upto_region 6 with (first | (go_at_call 23; (with_reducible refine (quad_Take.nw s w _ HB0.out).mono ?_); rintro e wa ⟨g, rfl, hi, hb, hb2⟩; have HIa := Aside0.mk hi; have HBa := Aside0.mk hb; have HDa := Aside0.mk (M.rec_below HD0.out hb2); have HN := Aside0.mk (Ne.symm (IsS95.ne_blk hi HDa.out (by decide))); clear hi hb hb2) | (go_at_call 24; (with_reducible refine (quad_Take.by_ s hs FB.out g w _ HIa.out HBa.out).mono ?_); rintro e wb ⟨rfl, hi, hb, hk⟩; have HIb := Aside0.mk hi; have HBb := Aside0.mk hb; have HDb := Aside0.mk (M.rec_but HDa.out hk HN.out); clear hi hb hk) | (go_at_call 27; (with_reducible refine (quad_Take.fx s 1 0 K0.out t0 p1 e1 F0.out g w _ HIb.out HBb.out).mono ?_); rintro e wc ⟨rfl, hi, hb, hk⟩; have HIc := Aside0.mk hi; have HBc := Aside0.mk hb; have HDc := Aside0.mk (M.rec_but HDb.out hk HN.out); clear hi hb hk) | (go_at_call 27; (with_reducible refine (quad_Take.fx s p1 e1 K1.out t1 p2 e2 F1.out g w _ HIc.out HBc.out).mono ?_); rintro e wd ⟨rfl, hi, hb, hk⟩; have HId := Aside0.mk hi; have HBd := Aside0.mk hb; have HDd := Aside0.mk (M.rec_but HDc.out hk HN.out); clear hi hb hk) | (go_at_call 27; (with_reducible refine (quad_Take.fx s p2 e2 K2.out t2 p3 e3 F2.out g w _ HId.out HBd.out).mono ?_); rintro e we ⟨rfl, hi, hb, hk⟩; have HIe := Aside0.mk hi; have HBe := Aside0.mk hb; have HDe := Aside0.mk (M.rec_but HDd.out hk HN.out); clear hi hb hk) | (go_at_call 27; (with_reducible refine (quad_Take.fx s p3 e3 K3.out t3 p4 e4 F3.out g w _ HIe.out HBe.out).mono ?_); rintro e wf ⟨rfl, hi, hb, hk⟩; have HIf := Aside0.mk hi; have HBf := Aside0.mk hb; have HDf := Aside0.mk (M.rec_but HDe.out hk HN.out); clear hi hb hk))
 obtain ⟨wg, hwg⟩ : ∃ wg, wf.alloc (.cells #[.string t0, .string t1, .string t2, .string t3] 45) = wg := ⟨_, rfl⟩
 have HIg := Aside0.mk (show IsS95 w wg g s p4 e4 true from by rw [← hwg]; exact IsS95.alloc HIf.out _)
 have HBg := Aside0.mk (show Below w.heap.size w wg from by rw [← hwg]; exact below_alloc HBf.out _)
 have HDg := Aside0.mk (show M.rec_ wg w.heap.size 45 [.string ⟨#[]⟩, .string ⟨#[]⟩, .string ⟨#[]⟩, .string ⟨#[]⟩] from by rw [← hwg]; exact M.rec_alloc HDf.out _)
 have HXg := Aside0.mk (show M.rec_ wg wf.heap.size 45 [.string t0, .string t1, .string t2, .string t3] from by rw [← hwg]; exact M.rec_new wf 45 [.string t0, .string t1, .string t2, .string t3])
 have HX := Aside0.mk (show wf.heap.size ≠ g from Nat.ne_of_gt (IsS95.lt HIf.out))
 rw [hwg]
 clear hwg HIa HIb HIc HId HIe HIf HDa HDb HDc HDd HDe HDf
 by_cases hr : r = 0
 ·subst hr
  rw [if_pos rfl] at hq
  injection hq with z1 hq
  injection hq with z2 hq
  injection hq with z3 hq
  injection hq with z4 z5
  subst z1 z2 z3 z4 z5
  go_wp2_with (first | (go_at_call 28; (with_reducible refine (quad_Take.en s p4 e4 0 F4.out g w _ HIg.out HBg.out).mono ?_); rintro e wh ⟨rfl, hi, hb, hk⟩; have HBh := Aside0.mk hb; have HDh := Aside0.mk (M.rec_but HDg.out hk HN.out); have HXh := Aside0.mk (M.rec_but HXg.out hk HX.out); clear hi hb hk) | ((with_reducible refine gate_dst (N := 29) rfl ?_); (try (refine gate_guard (by rfl) ?_; dsimp only)); refine M.wp_rec_load rfl 45 _ rfl (wf.heap.size) 45 [.string t0, .string t1, .string t2, .string t3] rfl HXh.out _ Tryd.underlying45 rfl quad_Take.size_ ?_) | ((with_reducible refine gate_store (t := 45) (p := 2) (v := .tmp 29) rfl ?_); refine M.wp_rec_store rfl 45 _ _ rfl w.heap.size 45 [.string ⟨#[]⟩, .string ⟨#[]⟩, .string ⟨#[]⟩, .string ⟨#[]⟩] [.string t0, .string t1, .string t2, .string t3] rfl rfl HDh.out rfl quad_Take.size_ rfl ?_; intro w3 hA hF hB hz; have HC3 := Aside0.mk hA; have HB3 := Aside0.mk (hB w.heap.size w (Nat.le_refl _) HBh.out); clear hA hF hB hz))
  exact bodyPost_ret (results_ct rfl _ _ w.heap.size 45 #[.string t0, .string t1, .string t2, .string t3] (0, 0) _ rfl HC3.out Tryd.underlying45 rfl quad_Take.size_) rfl ⟨rfl, HB3.out⟩
 ·rw [if_neg hr] at hq
  injection hq with z1 hq
  injection hq with z2 hq
  injection hq with z3 hq
  injection hq with z4 z5
  subst z1 z2 z3 z4 z5
  have d1 : (r != 0) = true := bne_iff_ne.2 hr
  have d2 : (r == 0) = false := beq_eq_false_iff_ne.2 hr
  have d3 : decide (r = 0) = false := decide_eq_false hr
  go_wp2_with (first | (go_at_call 28; (with_reducible refine (quad_Take.en s p4 e4 r F4.out g w _ HIg.out HBg.out).mono ?_); rintro e wh ⟨rfl, hi, hb, hk⟩; have HBh := Aside0.mk hb; have HDh := Aside0.mk (M.rec_but HDg.out hk HN.out); have HXh := Aside0.mk (M.rec_but HXg.out hk HX.out); clear hi hb hk) | ((with_reducible refine gate_store (t := 45) (p := 2) (v := .tmp 28) rfl ?_); refine M.wp_rec_store rfl 45 _ _ rfl w.heap.size 45 [.string ⟨#[]⟩, .string ⟨#[]⟩, .string ⟨#[]⟩, .string ⟨#[]⟩] [.string ⟨#[]⟩, .string ⟨#[]⟩, .string ⟨#[]⟩, .string ⟨#[]⟩] rfl rfl HDh.out rfl quad_Take.size_ rfl ?_; intro w3 hA hF hB hz; have HC3 := Aside0.mk hA; have HB3 := Aside0.mk (hB w.heap.size w (Nat.le_refl _) HBh.out); clear hA hF hB hz))
  exact bodyPost_ret (results_ct rfl _ _ w.heap.size 45 #[.string ⟨#[]⟩, .string ⟨#[]⟩, .string ⟨#[]⟩, .string ⟨#[]⟩] (0, 0) _ rfl HC3.out Tryd.underlying45 rfl quad_Take.size_) rfl ⟨rfl, HB3.out⟩
theorem quad_Take.calls (a0 : ByteArray) (r1 : ByteArray) (r2 : ByteArray) (r3 : ByteArray) (r4 : ByteArray) (r5 : Int) (w : World) (h : quad_Take.f a0 = some (r1, r2, r3, r4, r5)) :
    Calls Tryd.prog 12 #[.string a0] w fun e w' => e = .returned (.tuple #[.agg #[.string r1, .string r2, .string r3, .string r4], .int .i64 r5]) ∧ Below w.heap.size w w' := by
 unfold quad_Take.f at h
 split at h
 case isFalse => cases h
 case isTrue hg =>
  have h := Option.some.inj h
  have hk := quad_Take.sok_ a0 hg.1 hg.2
  exact quad_Take.walk a0 w hg.1 hg.2 _ _ _ _ _ _ _ _ _ _ _ _ _ rfl rfl rfl rfl (hk 0) (hk 1) (hk 2) (hk 3) rfl r1 r2 r3 r4 r5 h
end Go.Proofs.YtkjbhgolillidaaDoor.EMarkNames
