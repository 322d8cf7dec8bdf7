-- Laid by this session's own program (wip/tools/fold.py): this session's texts, cut to what the claim names and put together; Lean checks it.
import Derived.Test.YtkjbhgolillidaaDoorVMarkNames1
import Derived.Test.YtkjbhgolillidaaDoorVMarkNames2
import Derived.Test.YtkjbhgolillidaaDoorVMarkNames3
import Derived.Test.YtkjbhgolillidaaDoorVMarkNames6
import Derived.Test.YtkjbhgolillidaaDoorXMarkNames1
namespace Go.Proofs.YtkjbhgolillidaaDoor.EMarkNames
open Go.RowKit Go.Proofs.YtkjbhgolillidaaDoorW.PrintWords Go.Proofs.YtkjbhgolillidaaDoorW.PrintLast Go.Proofs.YtkjbhgolillidaaDoorW.PrintMore
attribute [local go_sem] M.run_leq M.run_gtr M.run_geq max2_int min2_int max_two min_two max_three min_three max_four min_four
set_option linter.unusedVariables false
set_option linter.unusedSimpArgs false
def commit_Take_p.l0 : Nat → Int → Int → ByteArray → Int → Int → Bool → Int → List ByteArray → ByteArray → ByteArray → Option (Int × List ByteArray × ByteArray × ByteArray × Int)
  | 0, _, _, _, _, _, _, _, _, _, _ => none
  | k + 1, x16, x17, zaa, zab, zac, zad, zae, zaf, zag, zah => if x17 < x16 then ((scan_Scan_Fix.f zaa zab zac zad 32).bind fun bt224 => (if zaf.length < 8796093022208 then (commit_Take_p.l0 k x16 (wrap64 (x17 + 1)) bt224.2.1 bt224.2.2.1 bt224.2.2.2.1 bt224.2.2.2.2 zae (zaf ++ [bt224.1]) zag zah) else (none))) else ((scan_Scan_Fix.f zaa zab zac zad 32).bind fun bt232 => ((scan_Scan_Text.f bt232.2.1 bt232.2.2.1 bt232.2.2.2.1 bt232.2.2.2.2 40).bind fun bt237 => ((scan_Scan_End.f bt237.2.1 bt237.2.2.1 bt237.2.2.2.1 bt237.2.2.2.2).bind fun bt242 => (if bt242.1 = 0 then ((commit_Check.f zae zaf bt232.1 bt237.1).bind fun t247 => (if t247 = 0 then (some (zae, zaf, bt232.1, bt237.1, 0)) else (some (0, ([] : List ByteArray), (⟨#[]⟩ : ByteArray), (⟨#[]⟩ : ByteArray), 3)))) else (some (0, ([] : List ByteArray), (⟨#[]⟩ : ByteArray), (⟨#[]⟩ : ByteArray), 3))))))
def commit_Take_p.f (k : Nat) (a0 : ByteArray) : Option (Int × List ByteArray × ByteArray × ByteArray × Int) := (scan_New.f a0).bind fun bt203 => ((scan_Scan_Byte.f bt203.1 bt203.2.1 bt203.2.2.1 bt203.2.2.2).bind fun bt208 => (if bt208.1 = 67 then ((scan_Scan_Num.f bt208.2.1 bt208.2.2.1 bt208.2.2.2.1 bt208.2.2.2.2 4294967295).bind fun bt213 => ((scan_Scan_Num.f bt213.2.1 bt213.2.2.1 bt213.2.2.2.1 bt213.2.2.2.2 2).bind fun bt219 => (commit_Take_p.l0 k bt219.1 0 bt219.2.1 bt219.2.2.1 bt219.2.2.2.1 bt219.2.2.2.2 bt213.1 ([] : List ByteArray) (⟨#[]⟩ : ByteArray) (⟨#[]⟩ : ByteArray)))) else (some (0, ([] : List ByteArray), (⟨#[]⟩ : ByteArray), (⟨#[]⟩ : ByteArray), 3))))
theorem commit_Take_p.mono_l : ∀ k, (∀ y0 y1 y2 y3 y4 y5 y6 y7 y8 y9, LeO (commit_Take_p.l0 k y0 y1 y2 y3 y4 y5 y6 y7 y8 y9) (commit_Take_p.l0 (k + 1) y0 y1 y2 y3 y4 y5 y6 y7 y8 y9))
  | 0 => fun _ _ _ _ _ _ _ _ _ _ r h => by simp [commit_Take_p.l0] at h
  | k + 1 => by
    have ih0 := commit_Take_p.mono_l k
    · intro y0 y1 y2 y3 y4 y5 y6 y7 y8 y9
      unfold commit_Take_p.l0
      repeat' first
      | (with_reducible exact ih0 _ _ _ _ _ _ _ _ _ _)
      | (with_reducible exact LeO.refl _)
      | (with_reducible exact LeO.none _)
      | (with_reducible refine LeO.ite ?_ ?_)
      | (with_reducible refine LeO.bind ?_ (fun _ => ?_))
      | exact ih0 _ _ _ _ _ _ _ _ _ _
      | exact LeO.none _
      | refine LeO.ite ?_ ?_
      | refine LeO.bind ?_ (fun _ => ?_)
theorem commit_Take_p.mono : ∀ a0 k, LeO (commit_Take_p.f k a0) (commit_Take_p.f (k + 1) a0) := by
  intro a0 k
  have ih0 := commit_Take_p.mono_l k
  unfold commit_Take_p.f
  repeat' first
      | (with_reducible exact ih0 _ _ _ _ _ _ _ _ _ _)
      | (with_reducible exact LeO.refl _)
      | (with_reducible exact LeO.none _)
      | (with_reducible refine LeO.ite ?_ ?_)
      | (with_reducible refine LeO.bind ?_ (fun _ => ?_))
      | exact ih0 _ _ _ _ _ _ _ _ _ _
      | exact LeO.none _
      | refine LeO.ite ?_ ?_
      | refine LeO.bind ?_ (fun _ => ?_)
def commit_Take_p.T7 : Bool × List (List Nat × List Nat) := (true, [([], []), ([0], [0]), ([], []), ([2], [2]), ([3], [3]), ([1, 4, 3], [1, 4]), ([0, 1, 2, 3, 4, 5], []), ([6, 5, 5, 0, 1, 2, 3, 4, 5], [5, 6])])
def commit_Take_p.B7 : List Nat := [0, 1, 0, 4, 12, 31, 63, 127]
theorem commit_Take_p.tab7 : rtab .any (opsOf Tryd.f13 7) = commit_Take_p.T7 := by kernel_rfl
theorem commit_Take_p.bits7 : waitsOk commit_Take_p.T7.2 commit_Take_p.B7 = true := by kernel_rfl
set_option maxHeartbeats 8000000 in
set_option maxRecDepth 100000 in
theorem commit_Take_p.calls (k : Nat) (a0 : ByteArray) (r1 : Int) (r2 : List ByteArray) (r3 : ByteArray) (r4 : ByteArray) (r5 : Int) (w : World) (h : commit_Take_p.f k a0 = some (r1, r2, r3, r4, r5)) :
    Calls Tryd.prog 13 #[.string a0] w fun e w' => ∃ v1_ : Value, e = .returned (.tuple #[.agg #[.int .i64 r1, v1_, .string r3, .string r4], .int .i64 r5]) ∧ Kd.R Kd.string 9 w' w.heap.size (fun _ => True) v1_ r2 ∧ Below w.heap.size w w' := by
 have hu49 := Tryd.underlying49
 have HB := Aside0.mk (Below.refl w.heap.size w)
 have H : ((scan_New.f a0).bind fun bt203 => ((scan_Scan_Byte.f bt203.1 bt203.2.1 bt203.2.2.1 bt203.2.2.2).bind fun bt208 => (if bt208.1 = 67 then ((scan_Scan_Num.f bt208.2.1 bt208.2.2.1 bt208.2.2.2.1 bt208.2.2.2.2 4294967295).bind fun bt213 => ((scan_Scan_Num.f bt213.2.1 bt213.2.2.1 bt213.2.2.2.1 bt213.2.2.2.2 2).bind fun bt219 => (commit_Take_p.l0 k bt219.1 0 bt219.2.1 bt219.2.2.1 bt219.2.2.2.1 bt219.2.2.2.2 bt213.1 ([] : List ByteArray) (⟨#[]⟩ : ByteArray) (⟨#[]⟩ : ByteArray)))) else (some (0, ([] : List ByteArray), (⟨#[]⟩ : ByteArray), (⟨#[]⟩ : ByteArray), 3))))) = some (r1, r2, r3, r4, r5) := h
 clear h
 replace H := Option.bind_eq_some_iff.mp H
 obtain ⟨⟨t203, t204, t205, t206⟩, A20, H⟩ := H
 replace H : ((scan_Scan_Byte.f t203 t204 t205 t206).bind fun bt208 => (if bt208.1 = 67 then ((scan_Scan_Num.f bt208.2.1 bt208.2.2.1 bt208.2.2.2.1 bt208.2.2.2.2 4294967295).bind fun bt213 => ((scan_Scan_Num.f bt213.2.1 bt213.2.2.1 bt213.2.2.2.1 bt213.2.2.2.2 2).bind fun bt219 => (commit_Take_p.l0 k bt219.1 0 bt219.2.1 bt219.2.2.1 bt219.2.2.2.1 bt219.2.2.2.2 bt213.1 ([] : List ByteArray) (⟨#[]⟩ : ByteArray) (⟨#[]⟩ : ByteArray)))) else (some (0, ([] : List ByteArray), (⟨#[]⟩ : ByteArray), (⟨#[]⟩ : ByteArray), 3)))) = some (r1, r2, r3, r4, r5) := H
 have A2 := Aside0.mk A20
 clear A20
 replace H := Option.bind_eq_some_iff.mp H
 obtain ⟨⟨t208, t209, t210, t211, t212⟩, A30, H⟩ := H
 replace H : (if t208 = 67 then ((scan_Scan_Num.f t209 t210 t211 t212 4294967295).bind fun bt213 => ((scan_Scan_Num.f bt213.2.1 bt213.2.2.1 bt213.2.2.2.1 bt213.2.2.2.2 2).bind fun bt219 => (commit_Take_p.l0 k bt219.1 0 bt219.2.1 bt219.2.2.1 bt219.2.2.2.1 bt219.2.2.2.2 bt213.1 ([] : List ByteArray) (⟨#[]⟩ : ByteArray) (⟨#[]⟩ : ByteArray)))) else (some (0, ([] : List ByteArray), (⟨#[]⟩ : ByteArray), (⟨#[]⟩ : ByteArray), 3))) = some (r1, r2, r3, r4, r5) := H
 have A3 := Aside0.mk A30
 clear A30
 by_cases c4 : t208 = 67
 ·rw [if_pos c4] at H
  have c4b0 : (t208 == 67) = true := beq_iff_eq.mpr c4
  have c4b1 : (t208 != 67) = false := bne_eq_false_iff_eq.mpr c4
  clear c4
  replace H := Option.bind_eq_some_iff.mp H
  obtain ⟨⟨t213, t214, t215, t216, t217⟩, A50, H⟩ := H
  replace H : ((scan_Scan_Num.f t214 t215 t216 t217 2).bind fun bt219 => (commit_Take_p.l0 k bt219.1 0 bt219.2.1 bt219.2.2.1 bt219.2.2.2.1 bt219.2.2.2.2 t213 ([] : List ByteArray) (⟨#[]⟩ : ByteArray) (⟨#[]⟩ : ByteArray))) = some (r1, r2, r3, r4, r5) := H
  have A5 := Aside0.mk A50
  clear A50
  replace H := Option.bind_eq_some_iff.mp H
  obtain ⟨⟨t219, t220, t221, t222, t223⟩, A60, H⟩ := H
  replace H : (commit_Take_p.l0 k t219 0 t220 t221 t222 t223 t213 ([] : List ByteArray) (⟨#[]⟩ : ByteArray) (⟨#[]⟩ : ByteArray)) = some (r1, r2, r3, r4, r5) := H
  have A6 := Aside0.mk A60
  clear A60
  have H' := Aside0.mk H
  clear H
  go_enter Tryd.func13, Tryd.ntmps13
  go_wp2_with (first | ((with_reducible refine gate_dst (N := 2) rfl ?_); refine M.bx 2 49 (#[.int .i64 0, .slice none 0 0, .string (⟨#[]⟩ : ByteArray), .string (⟨#[]⟩ : ByteArray)]) ?_; intro zai hg w7 hbox hb; have zaj := Aside0.mk (hbox); have zak := M.upG HB hg; have zal := M.upG HB hg; replace HB := M.upS HB hb; clear hb hbox hg) | ((with_reducible refine gate_callee (f := 23) rfl ?_); refine M.goes (some 7) Tryd.func23 #[.string a0] rfl ?_; (with_reducible refine (scan_New.calls a0 t203 t204 t205 t206 w _ ?side1 A2.out).mono ?_); (case side1 => repeat (first | (with_reducible first | exact HB.out | apply below_alloc | apply pw_below_drewN | apply below_drew1 | refine below_set ?_ zal.out) | exact HB.out)); rintro e w8 ⟨g207, rfl, hi, hb, hb2⟩; refine ⟨_, rfl, ?_⟩; replace HB := Aside0.mk (hb); have HI207 := Aside0.mk (hi); have zam := Aside0.mk (IsS95.ne_blk hi (blk_below (g := zai) (o := .cells #[.int .i64 0, .slice none 0 0, .string (⟨#[]⟩ : ByteArray), .string (⟨#[]⟩ : ByteArray)] 49 (0, 0)) (M.bk zaj) hb2) (by decide)); have zan := Aside0.mk (Ne.symm (IsS95.ne_blk hi (blk_below (g := zai) (o := .cells #[.int .i64 0, .slice none 0 0, .string (⟨#[]⟩ : ByteArray), .string (⟨#[]⟩ : ByteArray)] 49 (0, 0)) (M.bk zaj) hb2) (by decide))); replace zaj := M.bkB zaj hb2; (try clear hb); (try clear hb2); (try clear hi)) | ((with_reducible refine gate_callee (f := 24) rfl ?_); refine M.goes (some 9) Tryd.func24 #[.pointer (some ⟨g207, 0, none⟩)] rfl ?_; (with_reducible refine (scan_Scan_Byte.calls g207 t203 t204 t205 t206 t208 t209 t210 t211 t212 w _ ?side1 ?side2 A3.out).mono ?_); (case side1 => repeat (first | (with_reducible first | exact HI207.out | apply IsS95.alloc | apply IsS95.drewN | apply IsS95.drew | apply IsS95.set_0 | apply IsS95.set_1 | apply IsS95.set_2 | apply IsS95.set_3 | refine IsS95.far ?_ zam.out _) | exact HI207.out)); (case side2 => repeat (first | (with_reducible first | exact HB.out | apply below_alloc | apply pw_below_drewN | apply below_drew1 | refine below_set ?_ (IsS95.ge HI207.out) | refine below_set ?_ zal.out) | exact HB.out)); rintro e w9 ⟨rfl, hi, hb, hk⟩; refine ⟨_, rfl, ?_⟩; replace zaj := Aside0.mk (KeepBut.blk hk (g' := zai) (o := .cells #[.int .i64 0, .slice none 0 0, .string (⟨#[]⟩ : ByteArray), .string (⟨#[]⟩ : ByteArray)] 49 (0, 0)) (M.bk zaj) zan.out (by simp)); replace HB := Aside0.mk (hb); replace HI207 := Aside0.mk (hi); (try clear hb); (try clear hk); (try clear hi)) | ((with_reducible refine gate_callee (f := 25) rfl ?_); refine M.goes (some 13) Tryd.func25 #[.pointer (some ⟨g207, 0, none⟩), .int .i64 4294967295] rfl ?_; (with_reducible refine (scan_Scan_Num.calls g207 t209 t210 t211 t212 4294967295 t213 t214 t215 t216 t217 w _ ?side1 ?side2 A5.out).mono ?_); (case side1 => repeat (first | (with_reducible first | exact HI207.out | apply IsS95.alloc | apply IsS95.drewN | apply IsS95.drew | apply IsS95.set_0 | apply IsS95.set_1 | apply IsS95.set_2 | apply IsS95.set_3 | refine IsS95.far ?_ zam.out _) | exact HI207.out)); (case side2 => repeat (first | (with_reducible first | exact HB.out | apply below_alloc | apply pw_below_drewN | apply below_drew1 | refine below_set ?_ (IsS95.ge HI207.out) | refine below_set ?_ zal.out) | exact HB.out)); rintro e w10 ⟨rfl, hi, hb, hk⟩; refine ⟨_, rfl, ?_⟩; replace zaj := Aside0.mk (KeepBut.blk hk (g' := zai) (o := .cells #[.int .i64 0, .slice none 0 0, .string (⟨#[]⟩ : ByteArray), .string (⟨#[]⟩ : ByteArray)] 49 (0, 0)) (M.bk zaj) zan.out (by simp)); replace HB := Aside0.mk (hb); replace HI207 := Aside0.mk (hi); (try clear hb); (try clear hk); (try clear hi)) | ((with_reducible refine gate_dst (N := 5) rfl ?_); refine M.bx 5 49 (#[.int .i64 0, .slice none 0 0, .string (⟨#[]⟩ : ByteArray), .string (⟨#[]⟩ : ByteArray)]) ?_; intro zao hg w11 hbox hb; have zap := Aside0.mk (hbox); have zaq := Aside0.mk ((by rw [hg]; exact (below_size (by repeat (first | (with_reducible first | exact HB.out | apply below_alloc | apply pw_below_drewN | apply below_drew1 | refine below_set ?_ (IsS95.ge HI207.out) | refine below_set ?_ zal.out) | exact HB.out))) : w.heap.size ≤ zao)); have zar := Aside0.mk ((by rw [hg]; exact (below_size (by repeat (first | (with_reducible first | exact HB.out | apply below_alloc | apply pw_below_drewN | apply below_drew1 | refine below_set ?_ (IsS95.ge HI207.out) | refine below_set ?_ zal.out) | exact HB.out))) : w.heap.size ≤ zao)); replace HB := Aside0.mk (below_step (by repeat (first | (with_reducible first | exact HB.out | apply below_alloc | apply pw_below_drewN | apply below_drew1 | refine below_set ?_ (IsS95.ge HI207.out) | refine below_set ?_ zal.out) | exact HB.out)) hb); have zas := M.bkL zaj hg; have zat := M.bkG zaj hg; replace zaj := M.bkB zaj hb; have zau := Aside0.mk ((by rw [hg]; exact Nat.ne_of_lt (IsS95.lt (show IsS95 w _ g207 t214 t215 t216 t217 from by repeat (first | (with_reducible first | exact HI207.out | apply IsS95.alloc | apply IsS95.drewN | apply IsS95.drew | apply IsS95.set_0 | apply IsS95.set_1 | apply IsS95.set_2 | apply IsS95.set_3 | refine IsS95.far ?_ zam.out _) | exact HI207.out))) : g207 ≠ zao)); have zav := Aside0.mk ((by rw [hg]; exact Nat.ne_of_gt (IsS95.lt (show IsS95 w _ g207 t214 t215 t216 t217 from by repeat (first | (with_reducible first | exact HI207.out | apply IsS95.alloc | apply IsS95.drewN | apply IsS95.drew | apply IsS95.set_0 | apply IsS95.set_1 | apply IsS95.set_2 | apply IsS95.set_3 | refine IsS95.far ?_ zam.out _) | exact HI207.out))) : zao ≠ g207)); replace HI207 := Aside0.mk (IsS95.below (by repeat (first | (with_reducible first | exact HI207.out | apply IsS95.alloc | apply IsS95.drewN | apply IsS95.drew | apply IsS95.set_0 | apply IsS95.set_1 | apply IsS95.set_2 | apply IsS95.set_3 | refine IsS95.far ?_ zam.out _) | exact HI207.out)) hb); clear hb hbox hg; have zaw := zat.out; have zax := zas.out; have zay := zav.out; have zaz := zau.out; have zaA : w11.cell? ⟨zao, 0, none⟩ = some (.int .i64 0) := (blk_cell zap.out 0).trans rfl; have zaB : w11.cell? ⟨zao, 1, none⟩ = some (.slice none 0 0) := (blk_cell zap.out 1).trans rfl; have zaC : w11.cell? ⟨zao, 2, none⟩ = some (.string (⟨#[]⟩ : ByteArray)) := (blk_cell zap.out 2).trans rfl; have zaD : w11.cell? ⟨zao, 3, none⟩ = some (.string (⟨#[]⟩ : ByteArray)) := (blk_cell zap.out 3).trans rfl; have zaE := blk_frozen zap.out 0; have zaF := blk_frozen zap.out 1; have zaG := blk_frozen zap.out 2; have zaH := blk_frozen zap.out 3) | ((with_reducible refine gate_callee (f := 25) rfl ?_); refine M.goes (some 16) Tryd.func25 #[.pointer (some ⟨g207, 0, none⟩), .int .i64 2] rfl ?_; (with_reducible refine (scan_Scan_Num.calls g207 t214 t215 t216 t217 2 t219 t220 t221 t222 t223 w _ ?side1 ?side2 A6.out).mono ?_); (case side1 => repeat (first | (with_reducible first | exact HI207.out | apply IsS95.alloc | apply IsS95.drewN | apply IsS95.drew | apply IsS95.set_0 | apply IsS95.set_1 | apply IsS95.set_2 | apply IsS95.set_3 | refine IsS95.far ?_ zam.out _ | refine IsS95.far ?_ zau.out _) | exact HI207.out)); (case side2 => repeat (first | (with_reducible first | exact HB.out | apply below_alloc | apply pw_below_drewN | apply below_drew1 | refine below_set ?_ (IsS95.ge HI207.out) | refine below_set ?_ zal.out | refine below_set ?_ zar.out) | exact HB.out)); rintro e w15 ⟨rfl, hi, hb, hk⟩; refine ⟨_, rfl, ?_⟩; replace zaj := Aside0.mk (KeepBut.blk hk (g' := zai) (o := .cells #[.int .i64 0, .slice none 0 0, .string (⟨#[]⟩ : ByteArray), .string (⟨#[]⟩ : ByteArray)] 49 (0, 0)) (by refine M.fr ?_ zas; refine M.fr ?_ zas; refine M.fr ?_ zas; refine M.fr ?_ zas; exact M.bk zaj) zan.out (by simp)); replace zap := Aside0.mk (KeepBut.blk hk (g' := zao) (o := .cells #[.int .i64 t213, .slice none 0 0, .string (⟨#[]⟩ : ByteArray), .string (⟨#[]⟩ : ByteArray)] 49 (0, 0)) (by refine M.fp (cs := #[.int .i64 t213, .slice none 0 0, .string (⟨#[]⟩ : ByteArray), .string (⟨#[]⟩ : ByteArray)]) ?_ 3; refine M.fp (cs := #[.int .i64 t213, .slice none 0 0, .string (⟨#[]⟩ : ByteArray), .string (⟨#[]⟩ : ByteArray)]) ?_ 2; refine M.fp (cs := #[.int .i64 t213, .slice none 0 0, .string (⟨#[]⟩ : ByteArray), .string (⟨#[]⟩ : ByteArray)]) ?_ 1; refine M.fp (cs := #[.int .i64 0, .slice none 0 0, .string (⟨#[]⟩ : ByteArray), .string (⟨#[]⟩ : ByteArray)]) ?_ 0; exact M.bk zap) zav.out (by simp)); replace HB := Aside0.mk (hb); replace HI207 := Aside0.mk (hi); (try clear hb); (try clear hk); (try clear hi)))
  go_loopg [17] k (fun kq v17 w' => ∃ (x17_1 : Int) (zaI : ByteArray) (zaJ : Int) (zaK : Int) (zaL : Bool) (zaM : List ByteArray) (zaN : Value), v17 = .int .i64 x17_1 ∧ Aside0 (commit_Take_p.l0 kq t219 x17_1 zaI zaJ zaK zaL t213 zaM (⟨#[]⟩ : ByteArray) (⟨#[]⟩ : ByteArray) = some (r1, r2, r3, r4, r5)) ∧ Aside0 (kq ≤ k) ∧ Aside0 (Kd.R Kd.string 9 w' w.heap.size (fun _ => True) zaN zaM) ∧ Aside0 (w'.heap[zai]? = some (.cells #[.int .i64 0, (.slice none 0 0), .string (⟨#[]⟩ : ByteArray), .string (⟨#[]⟩ : ByteArray)] 49 (0, 0))) ∧ Aside0 (w'.heap[zao]? = some (.cells #[.int .i64 t213, zaN, .string (⟨#[]⟩ : ByteArray), .string (⟨#[]⟩ : ByteArray)] 49 (0, 0))) ∧ Aside0 (IsS95 w w' g207 zaI zaJ zaK zaL) ∧ Aside0 (Below w.heap.size w w'))
  case atStart => exact ⟨(0), (t220), (t221), (t222), (t223), (([] : List ByteArray)), (.slice none 0 0), M.eqv, H', ⟨Nat.le_refl _⟩, ⟨M.nl⟩, ⟨M.bk zaj⟩, ⟨M.bk zap⟩, ⟨by repeat (first | (with_reducible first | exact HI207.out | apply IsS95.alloc | apply IsS95.drewN | apply IsS95.drew | apply IsS95.set_0 | apply IsS95.set_1 | apply IsS95.set_2 | apply IsS95.set_3 | refine IsS95.far ?_ zam.out _ | refine IsS95.far ?_ zau.out _) | exact HI207.out)⟩, ⟨by repeat (first | (with_reducible first | exact HB.out | apply below_alloc | apply pw_below_drewN | apply below_drew1 | refine below_set ?_ (IsS95.ge HI207.out) | refine below_set ?_ zal.out | refine below_set ?_ zar.out) | exact HB.out)⟩⟩
  case round =>
   clear H'
   (try clear c1); (try clear c2); (try clear p2); (try clear c4); (try clear c4b0); (try clear c4b1); (try clear c12); (try clear c13); (try clear zaA); (try clear zaB); (try clear zaC); (try clear zaD); (try clear zaE); (try clear zaF); (try clear zaG); (try clear zaH)
   obtain ⟨x17_1, zaI, zaJ, zaK, zaL, zaM, zaN, rfl, HA, HK1, zaO, zaj, zap, HI207, HB⟩ := hrel
   cases gk with
   | zero => exact absurd HA.out (by simp [commit_Take_p.l0])
   | succ k1 =>
    have H := HA.out
    clear HA
    simp only [commit_Take_p.l0] at H
    by_cases c16 : x17_1 < t219
    ·rw [if_pos c16] at H
     have c16b0 := decide_eq_true c16
     clear c16
     replace H := Option.bind_eq_some_iff.mp H
     obtain ⟨⟨t224, t225, t226, t227, t228⟩, A170, H⟩ := H
     replace H : (if zaM.length < 8796093022208 then (commit_Take_p.l0 k1 t219 (wrap64 (x17_1 + 1)) t225 t226 t227 t228 t213 (zaM ++ [t224]) (⟨#[]⟩ : ByteArray) (⟨#[]⟩ : ByteArray)) else (none)) = some (r1, r2, r3, r4, r5) := H
     have A17 := Aside0.mk A170
     clear A170
     by_cases c18 : zaM.length < 8796093022208
     ·rw [if_pos c18] at H
      have LMc18 := Aside0.mk c18
      clear c18
      obtain ⟨y229, hy229⟩ : ∃ y_ : List ByteArray, y_ = (zaM ++ [t224]) := ⟨_, rfl⟩
      replace H : (commit_Take_p.l0 k1 t219 (wrap64 (x17_1 + 1)) t225 t226 t227 t228 t213 y229 (⟨#[]⟩ : ByteArray) (⟨#[]⟩ : ByteArray)) = some (r1, r2, r3, r4, r5) := by first | (rw [hy229]; with_reducible exact H) | (have H2_ := (Option.bind_some _ _).symm.trans H; rw [hy229]; with_reducible exact H2_) | (have H2_ := (Option.bind_some _ _).symm.trans H; with_reducible exact H2_) | with_reducible exact H | (rw [hy229]; exact H) | exact H
      have Ny229 := Aside0.mk hy229
      clear hy229
      have H' := Aside0.mk H
      clear H
      try go_wp2
      replace zaO := Aside0.mk (Kd.R_drew zaO.out); replace zaj := Aside0.mk (blk_drew zaj.out); replace zap := Aside0.mk (blk_drew zap.out); replace HI207 := Aside0.mk (IsS95.drew HI207.out); replace HB := Aside0.mk (below_drew1 HB.out)
      refine start_ (n := 8) (S := fun w' => w'.cell? ⟨zao, 0, none⟩ = some (.int .i64 t213) ∧ w'.cell? ⟨zao, 1, none⟩ = some (zaN) ∧ w'.cell? ⟨zao, 2, none⟩ = some (.string (⟨#[]⟩ : ByteArray)) ∧ w'.cell? ⟨zao, 3, none⟩ = some (.string (⟨#[]⟩ : ByteArray))) (ds := [7]) #[false, false, false, false, false, false, false, false] (by kernel_rfl) rfl rfl ⟨(blk_cell zap.out 0).trans rfl, (blk_cell zap.out 1).trans rfl, (blk_cell zap.out 2).trans rfl, (blk_cell zap.out 3).trans rfl⟩ (fun hHeld => ?_); refine with_tabW commit_Take_p.tab7 commit_Take_p.bits7 (fun HT_ HW_ => ?_)
      generalize wr.drew = w19 at zaO zaj zap HI207 HB hHeld ⊢
      refine M.pu 0 19 [1, 7] HT_ ?_
      refine M.pu 2 21 [1, 1, 1, 5] HT_ ?_
      refine M.tk 1 20 [3, 5] HT_ HW_ hHeld ?_
      refine one_ (i := 3) (N := some 22) #[true, true, true, true, false, false, false, false] rfl rfl (one_of HT_.out (by kernel_rfl)) (by decide) (fun K hK => ?_)
      refine goes_ Tryd.func27 (by kernel_rfl) rfl #[.pointer (some ⟨g207, 0, none⟩), .int .i64 32] (by rfl) rfl rfl (by (try simp only [List.map_toArray, List.map_cons, List.map_nil]); first | done | rfl | (simp only [List.length_drop, List.length_take]; rfl)) ?_
      with_reducible refine (scan_Scan_Fix.calls g207 zaI zaJ zaK zaL 32 t224 t225 t226 t227 t228 w _ ?side1 ?side2 A17.out).mono ?_
      (case side1 => repeat (first | (with_reducible first | exact HI207.out | apply IsS95.alloc | apply IsS95.drewN | apply IsS95.drew | apply IsS95.set_0 | apply IsS95.set_1 | apply IsS95.set_2 | apply IsS95.set_3 | refine IsS95.far ?_ zam.out _ | refine IsS95.far ?_ zau.out _) | exact HI207.out))
      (case side2 => repeat (first | (with_reducible first | exact HB.out | apply below_alloc | apply pw_below_drewN | apply below_drew1 | refine below_set ?_ (IsS95.ge HI207.out) | refine below_set ?_ zal.out | refine below_set ?_ zar.out) | exact HB.out))
      rintro e w20 ⟨rfl, hi, hb, hk⟩
      refine ⟨_, rfl, ?_⟩
      replace zaO := Aside0.mk (Kd.R_mono (Kd.R_keep (IsS95.apart (show IsS95 w _ g207 zaI zaJ zaK zaL from by repeat (first | (with_reducible first | exact HI207.out | apply IsS95.alloc | apply IsS95.drewN | apply IsS95.drew | apply IsS95.set_0 | apply IsS95.set_1 | apply IsS95.set_2 | apply IsS95.set_3 | refine IsS95.far ?_ zam.out _ | refine IsS95.far ?_ zau.out _) | exact HI207.out)) (M.ro zaO) (by decide)) hk (fun _ h => h.2)) (fun _ h => h.1)); replace zaj := Aside0.mk (KeepBut.blk hk (g' := zai) (o := .cells #[.int .i64 0, .slice none 0 0, .string (⟨#[]⟩ : ByteArray), .string (⟨#[]⟩ : ByteArray)] 49 (0, 0)) (M.bk zaj) zan.out (by simp)); replace zap := Aside0.mk (KeepBut.blk hk (g' := zao) (o := .cells #[.int .i64 t213, zaN, .string (⟨#[]⟩ : ByteArray), .string (⟨#[]⟩ : ByteArray)] 49 (0, 0)) (M.bk zap) zav.out (by simp)); replace HB := Aside0.mk (hb); replace HI207 := Aside0.mk (hi)
      (try clear hb)
      (try clear hb2)
      (try clear hk)
      (try clear hi)
      refine hK.out _ _ ⟨(blk_cell zap.out 0).trans rfl, (blk_cell zap.out 1).trans rfl, (blk_cell zap.out 2).trans rfl, (blk_cell zap.out 3).trans rfl⟩ (fun hHeld => ?_)
      clear hK K
      refine norm_ (a' := ?_) ?_ ?_
      rotate_left
      ·show Act.put _ (some 22) _ = _
       simp only [Act.put, List.setIfInBounds_toArray, List.set_cons_zero, List.set_cons_succ, i64_w, i32_w]
       rfl
      refine one_ (i := 4) (N := some 23) #[true, true, true, true, true, false, false, false] rfl rfl (one_of HT_.out (by kernel_rfl)) (by decide) (fun K hK => ?_)
      refine value_ (w1 := ?_) (v := ?_) (by rfl) rfl ?_ ?_
      rotate_left 2
      ·go_simp
       constructor
       ·rfl
       ·rfl
      refine hK.out _ _ ⟨(blk_cell (blk_alloc zap.out _) 0).trans rfl, (blk_cell (blk_alloc zap.out _) 1).trans rfl, (blk_cell (blk_alloc zap.out _) 2).trans rfl, (blk_cell (blk_alloc zap.out _) 3).trans rfl⟩ (fun hHeld => ?_)
      clear hK K
      refine norm_ (a' := ?_) ?_ ?_
      rotate_left
      ·show Act.put _ (some 23) _ = _
       simp only [Act.put, List.setIfInBounds_toArray, List.set_cons_zero, List.set_cons_succ, i64_w, i32_w]
       rfl
      refine one_ (i := 5) (N := some 24) #[true, true, true, true, true, true, false, false] rfl rfl (one_of HT_.out (by kernel_rfl)) (by decide) (fun K hK => ?_)
      refine Kd.R_append_step Kd.string (w0 := w) w.heap.size (by rfl) (.tmp 20) (.tmp 23) 23 9 (.string ⟨#[]⟩) 16 rfl Tryd.underlying23 info9 rfl (by decide) (by omega) zaN zaM t224 [.string t224] (fun _ => True) (fun _ => False) rfl rfl ?aP (fun _ hk => hk.elim) ?aF ?aO ?aB ?aS ?aL ?_
      (case aP => exact rfl)
      (case aB => exact (by repeat (first | (with_reducible first | exact HB.out | apply below_alloc | apply pw_below_drewN | apply below_drew1 | refine below_set ?_ (IsS95.ge HI207.out) | refine below_set ?_ zal.out | refine below_set ?_ zar.out) | exact HB.out)))
      (case aF => exact (fun _ _ => trivial))
      (case aO => exact (M.ro zaO))
      (case aS => exact (below_size (by repeat (first | (with_reducible first | exact HB.out | apply below_alloc | apply pw_below_drewN | apply below_drew1 | refine below_set ?_ (IsS95.ge HI207.out) | refine below_set ?_ zal.out | refine below_set ?_ zar.out) | exact HB.out))))
      (case aL => have := LMc18.out; omega)
      intro v230 w21 ho hb hg hat
      rw [← Ny229.out] at ho
      replace zaj := Aside0.mk (blk_grown (g := zai) (o := .cells #[.int .i64 0, .slice none 0 0, .string (⟨#[]⟩ : ByteArray), .string (⟨#[]⟩ : ByteArray)] 49 (0, 0)) (M.bk zaj) hg (Kd.R_ne zaO.out zaj.out (by decide))); replace zap := Aside0.mk (blk_grown (g := zao) (o := .cells #[.int .i64 t213, zaN, .string (⟨#[]⟩ : ByteArray), .string (⟨#[]⟩ : ByteArray)] 49 (0, 0)) (M.bk zap) hg (Kd.R_ne zaO.out zap.out (by decide))); replace HI207 := Aside0.mk (IsS95.grown (by first | exact HI207.out | exact IsS95.far HI207.out zam.out _ | exact IsS95.far HI207.out zau.out _ | (repeat (first | (with_reducible first | exact HI207.out | apply IsS95.alloc | apply IsS95.drewN | apply IsS95.drew | apply IsS95.set_0 | apply IsS95.set_1 | apply IsS95.set_2 | apply IsS95.set_3 | refine IsS95.far ?_ zam.out _ | refine IsS95.far ?_ zau.out _) | exact HI207.out))) hg (IsS95.own_ne HI207.out zaO.out (by decide))); replace HB := Aside0.mk (hb); have HO231 := Aside0.mk (ho); clear zaO
      clear ho hb hg hat
      obtain ⟨Ao22, co22, eo22⟩ := Kd.R_slice HO231.out
      (first | subst eo22 | (injection eo22 with f1_ f2_ f3_; have f4_ := f1_.symm; have f5_ := f3_.symm; clear f1_ f2_ f3_; subst f4_; subst f5_))
      refine hK.out _ _ ⟨(blk_cell zap.out 0).trans rfl, (blk_cell zap.out 1).trans rfl, (blk_cell zap.out 2).trans rfl, (blk_cell zap.out 3).trans rfl⟩ (fun hHeld => ?_)
      clear hK K
      refine norm_ (a' := ?_) ?_ ?_
      rotate_left
      ·show Act.put _ (some 24) _ = _
       simp only [Act.put, List.setIfInBounds_toArray, List.set_cons_zero, List.set_cons_succ, i64_w, i32_w]
       rfl
      refine M.pu 6 25 [7, 1] HT_ ?_
      refine last_ (i := 7) (N := none) #[true, true, true, true, true, true, true, true] rfl rfl (one_of HT_.out (by kernel_rfl)) (by decide) (fun K hK => ?_)
      have hs23 : w21.cell? ⟨zao, 1, none⟩ = some (zaN) := (blk_cell zap.out 1).trans rfl
      have hfs23 := blk_frozen zap.out 1
      have hns23_0 := zas.out
      have hms23_0 := zat.out
      refine skip_ (w1 := ?_) (by rfl) rfl ?_ ?_
      rotate_left
      ·go_simp
       rfl
      refine hK.out _ _ ?_
      clear hK K
      refine done_ (done_of HT_.out (by kernel_rfl)) ?_
      try go_wp2
      go_roundg k1
      case measure => have := HK1.out; omega
      case rel => exact ⟨(wrap64 (x17_1 + 1)), (t225), (t226), (t227), (t228), (y229), (.slice Ao22 y229.length co22), M.eqv, H', ⟨by have := HK1.out; omega⟩, ⟨by (with_reducible repeat (first | apply Kd.R_alloc | apply Kd.R_drewN | apply Kd.R_drew)); exact Kd.R_mono (Kd.R_far (p := ⟨zao, 1, none⟩) (Kd.R_types HO231.out zap.out (by decide)) (fun _ hk => hk.2) (.slice Ao22 y229.length co22)) (fun _ hk => trivial)⟩, ⟨by refine M.fr ?_ zas; exact M.bk zaj⟩, ⟨by refine M.fp (cs := #[.int .i64 t213, zaN, .string (⟨#[]⟩ : ByteArray), .string (⟨#[]⟩ : ByteArray)]) ?_ 1; exact M.bk zap⟩, ⟨by repeat (first | (with_reducible first | exact HI207.out | apply IsS95.alloc | apply IsS95.drewN | apply IsS95.drew | apply IsS95.set_0 | apply IsS95.set_1 | apply IsS95.set_2 | apply IsS95.set_3 | refine IsS95.far ?_ zam.out _ | refine IsS95.far ?_ zau.out _) | exact HI207.out)⟩, ⟨by repeat (first | (with_reducible first | exact HB.out | apply below_alloc | apply pw_below_drewN | apply below_drew1 | refine below_set ?_ (IsS95.ge HI207.out) | refine below_set ?_ zal.out | refine below_set ?_ zar.out) | exact HB.out)⟩⟩
     ·exact M.nf c18 H
    ·rw [if_neg c16] at H
     have c16b0 := decide_eq_false c16
     clear c16
     replace H := Option.bind_eq_some_iff.mp H
     obtain ⟨⟨t232, t233, t234, t235, t236⟩, A240, H⟩ := H
     replace H : ((scan_Scan_Text.f t233 t234 t235 t236 40).bind fun bt237 => ((scan_Scan_End.f bt237.2.1 bt237.2.2.1 bt237.2.2.2.1 bt237.2.2.2.2).bind fun bt242 => (if bt242.1 = 0 then ((commit_Check.f t213 zaM t232 bt237.1).bind fun t247 => (if t247 = 0 then (some (t213, zaM, t232, bt237.1, 0)) else (some (0, ([] : List ByteArray), (⟨#[]⟩ : ByteArray), (⟨#[]⟩ : ByteArray), 3)))) else (some (0, ([] : List ByteArray), (⟨#[]⟩ : ByteArray), (⟨#[]⟩ : ByteArray), 3))))) = some (r1, r2, r3, r4, r5) := H
     have A24 := Aside0.mk A240
     clear A240
     replace H := Option.bind_eq_some_iff.mp H
     obtain ⟨⟨t237, t238, t239, t240, t241⟩, A250, H⟩ := H
     replace H : ((scan_Scan_End.f t238 t239 t240 t241).bind fun bt242 => (if bt242.1 = 0 then ((commit_Check.f t213 zaM t232 t237).bind fun t247 => (if t247 = 0 then (some (t213, zaM, t232, t237, 0)) else (some (0, ([] : List ByteArray), (⟨#[]⟩ : ByteArray), (⟨#[]⟩ : ByteArray), 3)))) else (some (0, ([] : List ByteArray), (⟨#[]⟩ : ByteArray), (⟨#[]⟩ : ByteArray), 3)))) = some (r1, r2, r3, r4, r5) := H
     have A25 := Aside0.mk A250
     clear A250
     replace H := Option.bind_eq_some_iff.mp H
     obtain ⟨⟨t242, t243, t244, t245, t246⟩, A260, H⟩ := H
     replace H : (if t242 = 0 then ((commit_Check.f t213 zaM t232 t237).bind fun t247 => (if t247 = 0 then (some (t213, zaM, t232, t237, 0)) else (some (0, ([] : List ByteArray), (⟨#[]⟩ : ByteArray), (⟨#[]⟩ : ByteArray), 3)))) else (some (0, ([] : List ByteArray), (⟨#[]⟩ : ByteArray), (⟨#[]⟩ : ByteArray), 3))) = some (r1, r2, r3, r4, r5) := H
     have A26 := Aside0.mk A260
     clear A260
     by_cases c27 : t242 = 0
     ·rw [if_pos c27] at H
      have c27b0 : (t242 == 0) = true := beq_iff_eq.mpr c27
      have c27b1 : (t242 != 0) = false := bne_eq_false_iff_eq.mpr c27
      clear c27
      replace H := Option.bind_eq_some_iff.mp H
      obtain ⟨t247, A280, H⟩ := H
      replace H : (if t247 = 0 then (some (t213, zaM, t232, t237, 0)) else (some (0, ([] : List ByteArray), (⟨#[]⟩ : ByteArray), (⟨#[]⟩ : ByteArray), 3))) = some (r1, r2, r3, r4, r5) := H
      have A28 := Aside0.mk A280
      clear A280
      by_cases c29 : t247 = 0
      ·rw [if_pos c29] at H
       have c29b0 : (t247 == 0) = true := beq_iff_eq.mpr c29
       have c29b1 : (t247 != 0) = false := bne_eq_false_iff_eq.mpr c29
       clear c29
       simp only [Option.some.injEq, Prod.mk.injEq] at H
       obtain ⟨rfl, rfl, rfl, rfl, rfl⟩ := H
       go_wp2_with (first | ((with_reducible refine gate_callee (f := 27) rfl ?_); refine M.goes (some 28) Tryd.func27 #[.pointer (some ⟨g207, 0, none⟩), .int .i64 32] rfl ?_; (with_reducible refine (scan_Scan_Fix.calls g207 zaI zaJ zaK zaL 32 t232 t233 t234 t235 t236 w _ ?side1 ?side2 A24.out).mono ?_); (case side1 => repeat (first | (with_reducible first | exact HI207.out | apply IsS95.alloc | apply IsS95.drewN | apply IsS95.drew | apply IsS95.set_0 | apply IsS95.set_1 | apply IsS95.set_2 | apply IsS95.set_3 | refine IsS95.far ?_ zam.out _ | refine IsS95.far ?_ zau.out _) | exact HI207.out)); (case side2 => repeat (first | (with_reducible first | exact HB.out | apply below_alloc | apply pw_below_drewN | apply below_drew1 | refine below_set ?_ (IsS95.ge HI207.out) | refine below_set ?_ zal.out | refine below_set ?_ zar.out) | exact HB.out)); rintro e w30 ⟨rfl, hi, hb, hk⟩; refine ⟨_, rfl, ?_⟩; replace zaO := Aside0.mk (Kd.R_mono (Kd.R_keep (IsS95.apart (show IsS95 w _ g207 zaI zaJ zaK zaL from by repeat (first | (with_reducible first | exact HI207.out | apply IsS95.alloc | apply IsS95.drewN | apply IsS95.drew | apply IsS95.set_0 | apply IsS95.set_1 | apply IsS95.set_2 | apply IsS95.set_3 | refine IsS95.far ?_ zam.out _ | refine IsS95.far ?_ zau.out _) | exact HI207.out)) (M.ro zaO) (by decide)) hk (fun _ h => h.2)) (fun _ h => h.1)); replace zaj := Aside0.mk (KeepBut.blk hk (g' := zai) (o := .cells #[.int .i64 0, .slice none 0 0, .string (⟨#[]⟩ : ByteArray), .string (⟨#[]⟩ : ByteArray)] 49 (0, 0)) (M.bk zaj) zan.out (by simp)); replace zap := Aside0.mk (KeepBut.blk hk (g' := zao) (o := .cells #[.int .i64 t213, zaN, .string (⟨#[]⟩ : ByteArray), .string (⟨#[]⟩ : ByteArray)] 49 (0, 0)) (M.bk zap) zav.out (by simp)); replace HB := Aside0.mk (hb); replace HI207 := Aside0.mk (hi); (try clear hb); (try clear hk); (try clear hi)) | ((with_reducible refine gate_callee (f := 26) rfl ?_); refine M.goes (some 30) Tryd.func26 #[.pointer (some ⟨g207, 0, none⟩), .int .i64 40] rfl ?_; (with_reducible refine (scan_Scan_Text.calls g207 t233 t234 t235 t236 40 t237 t238 t239 t240 t241 w _ ?side1 ?side2 A25.out).mono ?_); (case side1 => repeat (first | (with_reducible first | exact HI207.out | apply IsS95.alloc | apply IsS95.drewN | apply IsS95.drew | apply IsS95.set_0 | apply IsS95.set_1 | apply IsS95.set_2 | apply IsS95.set_3 | refine IsS95.far ?_ zam.out _ | refine IsS95.far ?_ zau.out _) | exact HI207.out)); (case side2 => repeat (first | (with_reducible first | exact HB.out | apply below_alloc | apply pw_below_drewN | apply below_drew1 | refine below_set ?_ (IsS95.ge HI207.out) | refine below_set ?_ zal.out | refine below_set ?_ zar.out) | exact HB.out)); rintro e w31 ⟨rfl, hi, hb, hk⟩; refine ⟨_, rfl, ?_⟩; replace zaO := Aside0.mk (Kd.R_mono (Kd.R_keep (IsS95.apart (show IsS95 w _ g207 t233 t234 t235 t236 from by repeat (first | (with_reducible first | exact HI207.out | apply IsS95.alloc | apply IsS95.drewN | apply IsS95.drew | apply IsS95.set_0 | apply IsS95.set_1 | apply IsS95.set_2 | apply IsS95.set_3 | refine IsS95.far ?_ zam.out _ | refine IsS95.far ?_ zau.out _) | exact HI207.out)) (M.ro zaO) (by decide)) hk (fun _ h => h.2)) (fun _ h => h.1)); replace zaj := Aside0.mk (KeepBut.blk hk (g' := zai) (o := .cells #[.int .i64 0, .slice none 0 0, .string (⟨#[]⟩ : ByteArray), .string (⟨#[]⟩ : ByteArray)] 49 (0, 0)) (M.bk zaj) zan.out (by simp)); replace zap := Aside0.mk (KeepBut.blk hk (g' := zao) (o := .cells #[.int .i64 t213, zaN, .string (⟨#[]⟩ : ByteArray), .string (⟨#[]⟩ : ByteArray)] 49 (0, 0)) (M.bk zap) zav.out (by simp)); replace HB := Aside0.mk (hb); replace HI207 := Aside0.mk (hi); (try clear hb); (try clear hk); (try clear hi); have zaP := zat.out; have zaQ := zas.out; have zaR := zav.out; have zaS := zau.out; have zaT : w31.cell? ⟨zao, 0, none⟩ = some (.int .i64 t213) := (blk_cell zap.out 0).trans rfl; have zaU : w31.cell? ⟨zao, 1, none⟩ = some (zaN) := (blk_cell zap.out 1).trans rfl; have zaV : w31.cell? ⟨zao, 2, none⟩ = some (.string (⟨#[]⟩ : ByteArray)) := (blk_cell zap.out 2).trans rfl; have zaW : w31.cell? ⟨zao, 3, none⟩ = some (.string (⟨#[]⟩ : ByteArray)) := (blk_cell zap.out 3).trans rfl; have zaX := blk_frozen zap.out 0; have zaY := blk_frozen zap.out 1; have zaZ := blk_frozen zap.out 2; have za0 := blk_frozen zap.out 3) | ((with_reducible refine gate_callee (f := 28) rfl ?_); refine M.goes (some 34) Tryd.func28 #[.pointer (some ⟨g207, 0, none⟩)] rfl ?_; (with_reducible refine (scan_Scan_End.calls g207 t238 t239 t240 t241 t242 t243 t244 t245 t246 w _ ?side1 ?side2 A26.out).mono ?_); (case side1 => repeat (first | (with_reducible first | exact HI207.out | apply IsS95.alloc | apply IsS95.drewN | apply IsS95.drew | apply IsS95.set_0 | apply IsS95.set_1 | apply IsS95.set_2 | apply IsS95.set_3 | refine IsS95.far ?_ zam.out _ | refine IsS95.far ?_ zau.out _) | exact HI207.out)); (case side2 => repeat (first | (with_reducible first | exact HB.out | apply below_alloc | apply pw_below_drewN | apply below_drew1 | refine below_set ?_ (IsS95.ge HI207.out) | refine below_set ?_ zal.out | refine below_set ?_ zar.out) | exact HB.out)); rintro e w35 ⟨rfl, hi, hb, hk⟩; refine ⟨_, rfl, ?_⟩; replace zaO := Aside0.mk (Kd.R_mono (Kd.R_keep (IsS95.apart (show IsS95 w _ g207 t238 t239 t240 t241 from by repeat (first | (with_reducible first | exact HI207.out | apply IsS95.alloc | apply IsS95.drewN | apply IsS95.drew | apply IsS95.set_0 | apply IsS95.set_1 | apply IsS95.set_2 | apply IsS95.set_3 | refine IsS95.far ?_ zam.out _ | refine IsS95.far ?_ zau.out _) | exact HI207.out)) (by (with_reducible repeat (first | apply Kd.R_alloc | apply Kd.R_drewN | apply Kd.R_drew)); exact (Kd.R_mono (Kd.R_far (p := ⟨zao, 3, none⟩) (Kd.R_far (p := ⟨zao, 2, none⟩) (Kd.R_types zaO.out zap.out (by decide)) (fun _ hk => hk.2) (.string t232)) (fun _ hk => hk.2) (.string t237)) (fun _ h_ => h_.1))) (by decide)) hk (fun _ h => h.2)) (fun _ h => h.1)); replace zaj := Aside0.mk (KeepBut.blk hk (g' := zai) (o := .cells #[.int .i64 0, .slice none 0 0, .string (⟨#[]⟩ : ByteArray), .string (⟨#[]⟩ : ByteArray)] 49 (0, 0)) (by refine M.fr ?_ zas; refine M.fr ?_ zas; exact M.bk zaj) zan.out (by simp)); replace zap := Aside0.mk (KeepBut.blk hk (g' := zao) (o := .cells #[.int .i64 t213, zaN, .string t232, .string t237] 49 (0, 0)) (by refine M.fp (cs := #[.int .i64 t213, zaN, .string t232, .string (⟨#[]⟩ : ByteArray)]) ?_ 3; refine M.fp (cs := #[.int .i64 t213, zaN, .string (⟨#[]⟩ : ByteArray), .string (⟨#[]⟩ : ByteArray)]) ?_ 2; exact M.bk zap) zav.out (by simp)); replace HB := Aside0.mk (hb); replace HI207 := Aside0.mk (hi); (try clear hb); (try clear hk); (try clear hi); have za1 : w35.cell? ⟨zao, 0, none⟩ = some (.int .i64 t213) := (blk_cell zap.out 0).trans rfl; have za2 : w35.cell? ⟨zao, 1, none⟩ = some (zaN) := (blk_cell zap.out 1).trans rfl; have za3 : w35.cell? ⟨zao, 2, none⟩ = some (.string t232) := (blk_cell zap.out 2).trans rfl; have za4 : w35.cell? ⟨zao, 3, none⟩ = some (.string t237) := (blk_cell zap.out 3).trans rfl; have za5 := blk_frozen zap.out 0; have za6 := blk_frozen zap.out 1; have za7 := blk_frozen zap.out 2; have za8 := blk_frozen zap.out 3; obtain ⟨Ao37, co37, eo37⟩ := Kd.R_slice zaO.out; subst eo37) | (go_at_call 31; (with_reducible refine (commit_Check.calls t213 _ _ zaM t232 t237 t247 _ ?side1 ?side2 A28.out).mono ?_); (case side1 => repeat (first | exact (Kd.R_reads' zaO.out).2.2 | (with_reducible refine Kd.C_alloc ?_ _) | (with_reducible refine Kd.C_drewN ?_ _) | (with_reducible refine Kd.C_drew ?_))); (case side2 => exact (Kd.R_reads' zaO.out).2.1); rintro e w38 ⟨rfl, hb⟩; replace zaO := M.roB zaO hb; replace zaj := M.bkB zaj hb; replace zap := M.bkB zap hb; replace HB := Aside0.mk (below_step (by repeat (first | (with_reducible first | exact HB.out | apply below_alloc | apply pw_below_drewN | apply below_drew1 | refine below_set ?_ (IsS95.ge HI207.out) | refine below_set ?_ zal.out | refine below_set ?_ zar.out) | exact HB.out)) hb); replace HI207 := Aside0.mk (IsS95.below (by repeat (first | (with_reducible first | exact HI207.out | apply IsS95.alloc | apply IsS95.drewN | apply IsS95.drew | apply IsS95.set_0 | apply IsS95.set_1 | apply IsS95.set_2 | apply IsS95.set_3 | refine IsS95.far ?_ zam.out _ | refine IsS95.far ?_ zau.out _) | exact HI207.out)) hb); (try clear hb); (try clear hb2); (try clear hk); (try clear hi); have za9 : w38.cell? ⟨zao, 0, none⟩ = some (.int .i64 t213) := (blk_cell zap.out 0).trans rfl; have zba : w38.cell? ⟨zao, 1, none⟩ = some (.slice Ao37 zaM.length co37) := (blk_cell zap.out 1).trans rfl; have zbb : w38.cell? ⟨zao, 2, none⟩ = some (.string t232) := (blk_cell zap.out 2).trans rfl; have zbc : w38.cell? ⟨zao, 3, none⟩ = some (.string t237) := (blk_cell zap.out 3).trans rfl; have zbd := blk_frozen zap.out 0; have zbe := blk_frozen zap.out 1; have zbf := blk_frozen zap.out 2; have zbg := blk_frozen zap.out 3; have zbh := zan.out; have zbi := zam.out; have zbj : w38.cell? ⟨zai, 0, none⟩ = some (.int .i64 0) := (blk_cell zaj.out 0).trans rfl; have zbk : w38.cell? ⟨zai, 1, none⟩ = some (.slice none 0 0) := (blk_cell zaj.out 1).trans rfl; have zbl : w38.cell? ⟨zai, 2, none⟩ = some (.string (⟨#[]⟩ : ByteArray)) := (blk_cell zaj.out 2).trans rfl; have zbm : w38.cell? ⟨zai, 3, none⟩ = some (.string (⟨#[]⟩ : ByteArray)) := (blk_cell zaj.out 3).trans rfl; have zbn := blk_frozen zaj.out 0; have zbo := blk_frozen zaj.out 1; have zbp := blk_frozen zaj.out 2; have zbq := blk_frozen zaj.out 3))
       refine bodyPost_ret (results_ct rfl _ _ zai 49 #[.int .i64 t213, .slice Ao37 zaM.length co37, .string t232, .string t237] (0, 0) _ rfl (by refine M.fp (cs := #[.int .i64 t213, .slice Ao37 zaM.length co37, .string t232, .string (⟨#[]⟩ : ByteArray)]) ?_ 3; refine M.fp (cs := #[.int .i64 t213, .slice Ao37 zaM.length co37, .string (⟨#[]⟩ : ByteArray), .string (⟨#[]⟩ : ByteArray)]) ?_ 2; refine M.fp (cs := #[.int .i64 t213, .slice none 0 0, .string (⟨#[]⟩ : ByteArray), .string (⟨#[]⟩ : ByteArray)]) ?_ 1; refine M.fp (cs := #[.int .i64 0, .slice none 0 0, .string (⟨#[]⟩ : ByteArray), .string (⟨#[]⟩ : ByteArray)]) ?_ 0; exact M.bk zaj) Tryd.underlying49 rfl (by kernel_rfl)) rfl ?_
       exact ⟨_, M.eqe, by (with_reducible repeat (first | apply Kd.R_alloc | apply Kd.R_drewN | apply Kd.R_drew)); exact Kd.R_mono (Kd.R_far (p := ⟨zai, 3, none⟩) (Kd.R_far (p := ⟨zai, 2, none⟩) (Kd.R_far (p := ⟨zai, 1, none⟩) (Kd.R_far (p := ⟨zai, 0, none⟩) (Kd.R_types zaO.out zaj.out (by decide)) (fun _ hk => hk.2) (.int .i64 t213)) (fun _ hk => hk.2) (.slice Ao37 zaM.length co37)) (fun _ hk => hk.2) (.string t232)) (fun _ hk => hk.2) (.string t237)) (fun _ hk => trivial), by repeat (first | (with_reducible first | exact HB.out | apply below_alloc | apply pw_below_drewN | apply below_drew1 | refine below_set ?_ (IsS95.ge HI207.out) | refine below_set ?_ zal.out | refine below_set ?_ zar.out) | exact HB.out)⟩
      ·rw [if_neg c29] at H
       have c29b0 : (t247 == 0) = false := beq_eq_false_iff_ne.mpr c29
       have c29b1 : (t247 != 0) = true := bne_iff_ne.mpr c29
       simp only [Option.some.injEq, Prod.mk.injEq] at H
       obtain ⟨rfl, rfl, rfl, rfl, rfl⟩ := H
       go_wp2_with (first | ((with_reducible refine gate_callee (f := 27) rfl ?_); refine M.goes (some 28) Tryd.func27 #[.pointer (some ⟨g207, 0, none⟩), .int .i64 32] rfl ?_; (with_reducible refine (scan_Scan_Fix.calls g207 zaI zaJ zaK zaL 32 t232 t233 t234 t235 t236 w _ ?side1 ?side2 A24.out).mono ?_); (case side1 => repeat (first | (with_reducible first | exact HI207.out | apply IsS95.alloc | apply IsS95.drewN | apply IsS95.drew | apply IsS95.set_0 | apply IsS95.set_1 | apply IsS95.set_2 | apply IsS95.set_3 | refine IsS95.far ?_ zam.out _ | refine IsS95.far ?_ zau.out _) | exact HI207.out)); (case side2 => repeat (first | (with_reducible first | exact HB.out | apply below_alloc | apply pw_below_drewN | apply below_drew1 | refine below_set ?_ (IsS95.ge HI207.out) | refine below_set ?_ zal.out | refine below_set ?_ zar.out) | exact HB.out)); rintro e w42 ⟨rfl, hi, hb, hk⟩; refine ⟨_, rfl, ?_⟩; replace zaO := Aside0.mk (Kd.R_mono (Kd.R_keep (IsS95.apart (show IsS95 w _ g207 zaI zaJ zaK zaL from by repeat (first | (with_reducible first | exact HI207.out | apply IsS95.alloc | apply IsS95.drewN | apply IsS95.drew | apply IsS95.set_0 | apply IsS95.set_1 | apply IsS95.set_2 | apply IsS95.set_3 | refine IsS95.far ?_ zam.out _ | refine IsS95.far ?_ zau.out _) | exact HI207.out)) (M.ro zaO) (by decide)) hk (fun _ h => h.2)) (fun _ h => h.1)); replace zaj := Aside0.mk (KeepBut.blk hk (g' := zai) (o := .cells #[.int .i64 0, .slice none 0 0, .string (⟨#[]⟩ : ByteArray), .string (⟨#[]⟩ : ByteArray)] 49 (0, 0)) (M.bk zaj) zan.out (by simp)); replace zap := Aside0.mk (KeepBut.blk hk (g' := zao) (o := .cells #[.int .i64 t213, zaN, .string (⟨#[]⟩ : ByteArray), .string (⟨#[]⟩ : ByteArray)] 49 (0, 0)) (M.bk zap) zav.out (by simp)); replace HB := Aside0.mk (hb); replace HI207 := Aside0.mk (hi); (try clear hb); (try clear hk); (try clear hi)) | ((with_reducible refine gate_callee (f := 26) rfl ?_); refine M.goes (some 30) Tryd.func26 #[.pointer (some ⟨g207, 0, none⟩), .int .i64 40] rfl ?_; (with_reducible refine (scan_Scan_Text.calls g207 t233 t234 t235 t236 40 t237 t238 t239 t240 t241 w _ ?side1 ?side2 A25.out).mono ?_); (case side1 => repeat (first | (with_reducible first | exact HI207.out | apply IsS95.alloc | apply IsS95.drewN | apply IsS95.drew | apply IsS95.set_0 | apply IsS95.set_1 | apply IsS95.set_2 | apply IsS95.set_3 | refine IsS95.far ?_ zam.out _ | refine IsS95.far ?_ zau.out _) | exact HI207.out)); (case side2 => repeat (first | (with_reducible first | exact HB.out | apply below_alloc | apply pw_below_drewN | apply below_drew1 | refine below_set ?_ (IsS95.ge HI207.out) | refine below_set ?_ zal.out | refine below_set ?_ zar.out) | exact HB.out)); rintro e w43 ⟨rfl, hi, hb, hk⟩; refine ⟨_, rfl, ?_⟩; replace zaO := Aside0.mk (Kd.R_mono (Kd.R_keep (IsS95.apart (show IsS95 w _ g207 t233 t234 t235 t236 from by repeat (first | (with_reducible first | exact HI207.out | apply IsS95.alloc | apply IsS95.drewN | apply IsS95.drew | apply IsS95.set_0 | apply IsS95.set_1 | apply IsS95.set_2 | apply IsS95.set_3 | refine IsS95.far ?_ zam.out _ | refine IsS95.far ?_ zau.out _) | exact HI207.out)) (M.ro zaO) (by decide)) hk (fun _ h => h.2)) (fun _ h => h.1)); replace zaj := Aside0.mk (KeepBut.blk hk (g' := zai) (o := .cells #[.int .i64 0, .slice none 0 0, .string (⟨#[]⟩ : ByteArray), .string (⟨#[]⟩ : ByteArray)] 49 (0, 0)) (M.bk zaj) zan.out (by simp)); replace zap := Aside0.mk (KeepBut.blk hk (g' := zao) (o := .cells #[.int .i64 t213, zaN, .string (⟨#[]⟩ : ByteArray), .string (⟨#[]⟩ : ByteArray)] 49 (0, 0)) (M.bk zap) zav.out (by simp)); replace HB := Aside0.mk (hb); replace HI207 := Aside0.mk (hi); (try clear hb); (try clear hk); (try clear hi); have zbr := zat.out; have zbs := zas.out; have zbt := zav.out; have zbu := zau.out; have zbv : w43.cell? ⟨zao, 0, none⟩ = some (.int .i64 t213) := (blk_cell zap.out 0).trans rfl; have zbw : w43.cell? ⟨zao, 1, none⟩ = some (zaN) := (blk_cell zap.out 1).trans rfl; have zbx : w43.cell? ⟨zao, 2, none⟩ = some (.string (⟨#[]⟩ : ByteArray)) := (blk_cell zap.out 2).trans rfl; have zby : w43.cell? ⟨zao, 3, none⟩ = some (.string (⟨#[]⟩ : ByteArray)) := (blk_cell zap.out 3).trans rfl; have zbz := blk_frozen zap.out 0; have zbA := blk_frozen zap.out 1; have zbB := blk_frozen zap.out 2; have zbC := blk_frozen zap.out 3) | ((with_reducible refine gate_callee (f := 28) rfl ?_); refine M.goes (some 34) Tryd.func28 #[.pointer (some ⟨g207, 0, none⟩)] rfl ?_; (with_reducible refine (scan_Scan_End.calls g207 t238 t239 t240 t241 t242 t243 t244 t245 t246 w _ ?side1 ?side2 A26.out).mono ?_); (case side1 => repeat (first | (with_reducible first | exact HI207.out | apply IsS95.alloc | apply IsS95.drewN | apply IsS95.drew | apply IsS95.set_0 | apply IsS95.set_1 | apply IsS95.set_2 | apply IsS95.set_3 | refine IsS95.far ?_ zam.out _ | refine IsS95.far ?_ zau.out _) | exact HI207.out)); (case side2 => repeat (first | (with_reducible first | exact HB.out | apply below_alloc | apply pw_below_drewN | apply below_drew1 | refine below_set ?_ (IsS95.ge HI207.out) | refine below_set ?_ zal.out | refine below_set ?_ zar.out) | exact HB.out)); rintro e w47 ⟨rfl, hi, hb, hk⟩; refine ⟨_, rfl, ?_⟩; replace zaO := Aside0.mk (Kd.R_mono (Kd.R_keep (IsS95.apart (show IsS95 w _ g207 t238 t239 t240 t241 from by repeat (first | (with_reducible first | exact HI207.out | apply IsS95.alloc | apply IsS95.drewN | apply IsS95.drew | apply IsS95.set_0 | apply IsS95.set_1 | apply IsS95.set_2 | apply IsS95.set_3 | refine IsS95.far ?_ zam.out _ | refine IsS95.far ?_ zau.out _) | exact HI207.out)) (by (with_reducible repeat (first | apply Kd.R_alloc | apply Kd.R_drewN | apply Kd.R_drew)); exact (Kd.R_mono (Kd.R_far (p := ⟨zao, 3, none⟩) (Kd.R_far (p := ⟨zao, 2, none⟩) (Kd.R_types zaO.out zap.out (by decide)) (fun _ hk => hk.2) (.string t232)) (fun _ hk => hk.2) (.string t237)) (fun _ h_ => h_.1))) (by decide)) hk (fun _ h => h.2)) (fun _ h => h.1)); replace zaj := Aside0.mk (KeepBut.blk hk (g' := zai) (o := .cells #[.int .i64 0, .slice none 0 0, .string (⟨#[]⟩ : ByteArray), .string (⟨#[]⟩ : ByteArray)] 49 (0, 0)) (by refine M.fr ?_ zas; refine M.fr ?_ zas; exact M.bk zaj) zan.out (by simp)); replace zap := Aside0.mk (KeepBut.blk hk (g' := zao) (o := .cells #[.int .i64 t213, zaN, .string t232, .string t237] 49 (0, 0)) (by refine M.fp (cs := #[.int .i64 t213, zaN, .string t232, .string (⟨#[]⟩ : ByteArray)]) ?_ 3; refine M.fp (cs := #[.int .i64 t213, zaN, .string (⟨#[]⟩ : ByteArray), .string (⟨#[]⟩ : ByteArray)]) ?_ 2; exact M.bk zap) zav.out (by simp)); replace HB := Aside0.mk (hb); replace HI207 := Aside0.mk (hi); (try clear hb); (try clear hk); (try clear hi); have zbD : w47.cell? ⟨zao, 0, none⟩ = some (.int .i64 t213) := (blk_cell zap.out 0).trans rfl; have zbE : w47.cell? ⟨zao, 1, none⟩ = some (zaN) := (blk_cell zap.out 1).trans rfl; have zbF : w47.cell? ⟨zao, 2, none⟩ = some (.string t232) := (blk_cell zap.out 2).trans rfl; have zbG : w47.cell? ⟨zao, 3, none⟩ = some (.string t237) := (blk_cell zap.out 3).trans rfl; have zbH := blk_frozen zap.out 0; have zbI := blk_frozen zap.out 1; have zbJ := blk_frozen zap.out 2; have zbK := blk_frozen zap.out 3; obtain ⟨Ao49, co49, eo49⟩ := Kd.R_slice zaO.out; subst eo49) | (go_at_call 31; (with_reducible refine (commit_Check.calls t213 _ _ zaM t232 t237 t247 _ ?side1 ?side2 A28.out).mono ?_); (case side1 => repeat (first | exact (Kd.R_reads' zaO.out).2.2 | (with_reducible refine Kd.C_alloc ?_ _) | (with_reducible refine Kd.C_drewN ?_ _) | (with_reducible refine Kd.C_drew ?_))); (case side2 => exact (Kd.R_reads' zaO.out).2.1); rintro e w50 ⟨rfl, hb⟩; replace zaO := M.roB zaO hb; replace zaj := M.bkB zaj hb; replace zap := M.bkB zap hb; replace HB := Aside0.mk (below_step (by repeat (first | (with_reducible first | exact HB.out | apply below_alloc | apply pw_below_drewN | apply below_drew1 | refine below_set ?_ (IsS95.ge HI207.out) | refine below_set ?_ zal.out | refine below_set ?_ zar.out) | exact HB.out)) hb); replace HI207 := Aside0.mk (IsS95.below (by repeat (first | (with_reducible first | exact HI207.out | apply IsS95.alloc | apply IsS95.drewN | apply IsS95.drew | apply IsS95.set_0 | apply IsS95.set_1 | apply IsS95.set_2 | apply IsS95.set_3 | refine IsS95.far ?_ zam.out _ | refine IsS95.far ?_ zau.out _) | exact HI207.out)) hb); (try clear hb); (try clear hb2); (try clear hk); (try clear hi); have zbL := zan.out; have zbM := zam.out; have zbN : w50.cell? ⟨zai, 0, none⟩ = some (.int .i64 0) := (blk_cell zaj.out 0).trans rfl; have zbO : w50.cell? ⟨zai, 1, none⟩ = some (.slice none 0 0) := (blk_cell zaj.out 1).trans rfl; have zbP : w50.cell? ⟨zai, 2, none⟩ = some (.string (⟨#[]⟩ : ByteArray)) := (blk_cell zaj.out 2).trans rfl; have zbQ : w50.cell? ⟨zai, 3, none⟩ = some (.string (⟨#[]⟩ : ByteArray)) := (blk_cell zaj.out 3).trans rfl; have zbR := blk_frozen zaj.out 0; have zbS := blk_frozen zaj.out 1; have zbT := blk_frozen zaj.out 2; have zbU := blk_frozen zaj.out 3))
       refine bodyPost_ret (results_ct rfl _ _ zai 49 #[.int .i64 0, .slice none 0 0, .string (⟨#[]⟩ : ByteArray), .string (⟨#[]⟩ : ByteArray)] (0, 0) _ rfl (by refine M.fp (cs := #[.int .i64 0, .slice none 0 0, .string (⟨#[]⟩ : ByteArray), .string (⟨#[]⟩ : ByteArray)]) ?_ 3; refine M.fp (cs := #[.int .i64 0, .slice none 0 0, .string (⟨#[]⟩ : ByteArray), .string (⟨#[]⟩ : ByteArray)]) ?_ 2; refine M.fp (cs := #[.int .i64 0, .slice none 0 0, .string (⟨#[]⟩ : ByteArray), .string (⟨#[]⟩ : ByteArray)]) ?_ 1; refine M.fp (cs := #[.int .i64 0, .slice none 0 0, .string (⟨#[]⟩ : ByteArray), .string (⟨#[]⟩ : ByteArray)]) ?_ 0; exact M.bk zaj) Tryd.underlying49 rfl (by kernel_rfl)) rfl ?_
       exact ⟨_, M.eqe, M.nl, by repeat (first | (with_reducible first | exact HB.out | apply below_alloc | apply pw_below_drewN | apply below_drew1 | refine below_set ?_ (IsS95.ge HI207.out) | refine below_set ?_ zal.out | refine below_set ?_ zar.out) | exact HB.out)⟩
     ·rw [if_neg c27] at H
      have c27b0 : (t242 == 0) = false := beq_eq_false_iff_ne.mpr c27
      have c27b1 : (t242 != 0) = true := bne_iff_ne.mpr c27
      simp only [Option.some.injEq, Prod.mk.injEq] at H
      obtain ⟨rfl, rfl, rfl, rfl, rfl⟩ := H
      go_wp2_with (first | ((with_reducible refine gate_callee (f := 27) rfl ?_); refine M.goes (some 28) Tryd.func27 #[.pointer (some ⟨g207, 0, none⟩), .int .i64 32] rfl ?_; (with_reducible refine (scan_Scan_Fix.calls g207 zaI zaJ zaK zaL 32 t232 t233 t234 t235 t236 w _ ?side1 ?side2 A24.out).mono ?_); (case side1 => repeat (first | (with_reducible first | exact HI207.out | apply IsS95.alloc | apply IsS95.drewN | apply IsS95.drew | apply IsS95.set_0 | apply IsS95.set_1 | apply IsS95.set_2 | apply IsS95.set_3 | refine IsS95.far ?_ zam.out _ | refine IsS95.far ?_ zau.out _) | exact HI207.out)); (case side2 => repeat (first | (with_reducible first | exact HB.out | apply below_alloc | apply pw_below_drewN | apply below_drew1 | refine below_set ?_ (IsS95.ge HI207.out) | refine below_set ?_ zal.out | refine below_set ?_ zar.out) | exact HB.out)); rintro e w53 ⟨rfl, hi, hb, hk⟩; refine ⟨_, rfl, ?_⟩; replace zaO := Aside0.mk (Kd.R_mono (Kd.R_keep (IsS95.apart (show IsS95 w _ g207 zaI zaJ zaK zaL from by repeat (first | (with_reducible first | exact HI207.out | apply IsS95.alloc | apply IsS95.drewN | apply IsS95.drew | apply IsS95.set_0 | apply IsS95.set_1 | apply IsS95.set_2 | apply IsS95.set_3 | refine IsS95.far ?_ zam.out _ | refine IsS95.far ?_ zau.out _) | exact HI207.out)) (M.ro zaO) (by decide)) hk (fun _ h => h.2)) (fun _ h => h.1)); replace zaj := Aside0.mk (KeepBut.blk hk (g' := zai) (o := .cells #[.int .i64 0, .slice none 0 0, .string (⟨#[]⟩ : ByteArray), .string (⟨#[]⟩ : ByteArray)] 49 (0, 0)) (M.bk zaj) zan.out (by simp)); replace zap := Aside0.mk (KeepBut.blk hk (g' := zao) (o := .cells #[.int .i64 t213, zaN, .string (⟨#[]⟩ : ByteArray), .string (⟨#[]⟩ : ByteArray)] 49 (0, 0)) (M.bk zap) zav.out (by simp)); replace HB := Aside0.mk (hb); replace HI207 := Aside0.mk (hi); (try clear hb); (try clear hk); (try clear hi)) | ((with_reducible refine gate_callee (f := 26) rfl ?_); refine M.goes (some 30) Tryd.func26 #[.pointer (some ⟨g207, 0, none⟩), .int .i64 40] rfl ?_; (with_reducible refine (scan_Scan_Text.calls g207 t233 t234 t235 t236 40 t237 t238 t239 t240 t241 w _ ?side1 ?side2 A25.out).mono ?_); (case side1 => repeat (first | (with_reducible first | exact HI207.out | apply IsS95.alloc | apply IsS95.drewN | apply IsS95.drew | apply IsS95.set_0 | apply IsS95.set_1 | apply IsS95.set_2 | apply IsS95.set_3 | refine IsS95.far ?_ zam.out _ | refine IsS95.far ?_ zau.out _) | exact HI207.out)); (case side2 => repeat (first | (with_reducible first | exact HB.out | apply below_alloc | apply pw_below_drewN | apply below_drew1 | refine below_set ?_ (IsS95.ge HI207.out) | refine below_set ?_ zal.out | refine below_set ?_ zar.out) | exact HB.out)); rintro e w54 ⟨rfl, hi, hb, hk⟩; refine ⟨_, rfl, ?_⟩; replace zaO := Aside0.mk (Kd.R_mono (Kd.R_keep (IsS95.apart (show IsS95 w _ g207 t233 t234 t235 t236 from by repeat (first | (with_reducible first | exact HI207.out | apply IsS95.alloc | apply IsS95.drewN | apply IsS95.drew | apply IsS95.set_0 | apply IsS95.set_1 | apply IsS95.set_2 | apply IsS95.set_3 | refine IsS95.far ?_ zam.out _ | refine IsS95.far ?_ zau.out _) | exact HI207.out)) (M.ro zaO) (by decide)) hk (fun _ h => h.2)) (fun _ h => h.1)); replace zaj := Aside0.mk (KeepBut.blk hk (g' := zai) (o := .cells #[.int .i64 0, .slice none 0 0, .string (⟨#[]⟩ : ByteArray), .string (⟨#[]⟩ : ByteArray)] 49 (0, 0)) (M.bk zaj) zan.out (by simp)); replace zap := Aside0.mk (KeepBut.blk hk (g' := zao) (o := .cells #[.int .i64 t213, zaN, .string (⟨#[]⟩ : ByteArray), .string (⟨#[]⟩ : ByteArray)] 49 (0, 0)) (M.bk zap) zav.out (by simp)); replace HB := Aside0.mk (hb); replace HI207 := Aside0.mk (hi); (try clear hb); (try clear hk); (try clear hi); have zbV := zat.out; have zbW := zas.out; have zbX := zav.out; have zbY := zau.out; have zbZ : w54.cell? ⟨zao, 0, none⟩ = some (.int .i64 t213) := (blk_cell zap.out 0).trans rfl; have zb0 : w54.cell? ⟨zao, 1, none⟩ = some (zaN) := (blk_cell zap.out 1).trans rfl; have zb1 : w54.cell? ⟨zao, 2, none⟩ = some (.string (⟨#[]⟩ : ByteArray)) := (blk_cell zap.out 2).trans rfl; have zb2 : w54.cell? ⟨zao, 3, none⟩ = some (.string (⟨#[]⟩ : ByteArray)) := (blk_cell zap.out 3).trans rfl; have zb3 := blk_frozen zap.out 0; have zb4 := blk_frozen zap.out 1; have zb5 := blk_frozen zap.out 2; have zb6 := blk_frozen zap.out 3) | ((with_reducible refine gate_callee (f := 28) rfl ?_); refine M.goes (some 34) Tryd.func28 #[.pointer (some ⟨g207, 0, none⟩)] rfl ?_; (with_reducible refine (scan_Scan_End.calls g207 t238 t239 t240 t241 t242 t243 t244 t245 t246 w _ ?side1 ?side2 A26.out).mono ?_); (case side1 => repeat (first | (with_reducible first | exact HI207.out | apply IsS95.alloc | apply IsS95.drewN | apply IsS95.drew | apply IsS95.set_0 | apply IsS95.set_1 | apply IsS95.set_2 | apply IsS95.set_3 | refine IsS95.far ?_ zam.out _ | refine IsS95.far ?_ zau.out _) | exact HI207.out)); (case side2 => repeat (first | (with_reducible first | exact HB.out | apply below_alloc | apply pw_below_drewN | apply below_drew1 | refine below_set ?_ (IsS95.ge HI207.out) | refine below_set ?_ zal.out | refine below_set ?_ zar.out) | exact HB.out)); rintro e w58 ⟨rfl, hi, hb, hk⟩; refine ⟨_, rfl, ?_⟩; replace zaO := Aside0.mk (Kd.R_mono (Kd.R_keep (IsS95.apart (show IsS95 w _ g207 t238 t239 t240 t241 from by repeat (first | (with_reducible first | exact HI207.out | apply IsS95.alloc | apply IsS95.drewN | apply IsS95.drew | apply IsS95.set_0 | apply IsS95.set_1 | apply IsS95.set_2 | apply IsS95.set_3 | refine IsS95.far ?_ zam.out _ | refine IsS95.far ?_ zau.out _) | exact HI207.out)) (by (with_reducible repeat (first | apply Kd.R_alloc | apply Kd.R_drewN | apply Kd.R_drew)); exact (Kd.R_mono (Kd.R_far (p := ⟨zao, 3, none⟩) (Kd.R_far (p := ⟨zao, 2, none⟩) (Kd.R_types zaO.out zap.out (by decide)) (fun _ hk => hk.2) (.string t232)) (fun _ hk => hk.2) (.string t237)) (fun _ h_ => h_.1))) (by decide)) hk (fun _ h => h.2)) (fun _ h => h.1)); replace zaj := Aside0.mk (KeepBut.blk hk (g' := zai) (o := .cells #[.int .i64 0, .slice none 0 0, .string (⟨#[]⟩ : ByteArray), .string (⟨#[]⟩ : ByteArray)] 49 (0, 0)) (by refine M.fr ?_ zas; refine M.fr ?_ zas; exact M.bk zaj) zan.out (by simp)); replace zap := Aside0.mk (KeepBut.blk hk (g' := zao) (o := .cells #[.int .i64 t213, zaN, .string t232, .string t237] 49 (0, 0)) (by refine M.fp (cs := #[.int .i64 t213, zaN, .string t232, .string (⟨#[]⟩ : ByteArray)]) ?_ 3; refine M.fp (cs := #[.int .i64 t213, zaN, .string (⟨#[]⟩ : ByteArray), .string (⟨#[]⟩ : ByteArray)]) ?_ 2; exact M.bk zap) zav.out (by simp)); replace HB := Aside0.mk (hb); replace HI207 := Aside0.mk (hi); (try clear hb); (try clear hk); (try clear hi); have zb7 := zan.out; have zb8 := zam.out; have zb9 : w58.cell? ⟨zai, 0, none⟩ = some (.int .i64 0) := (blk_cell zaj.out 0).trans rfl; have zca : w58.cell? ⟨zai, 1, none⟩ = some (.slice none 0 0) := (blk_cell zaj.out 1).trans rfl; have zcb : w58.cell? ⟨zai, 2, none⟩ = some (.string (⟨#[]⟩ : ByteArray)) := (blk_cell zaj.out 2).trans rfl; have zcc : w58.cell? ⟨zai, 3, none⟩ = some (.string (⟨#[]⟩ : ByteArray)) := (blk_cell zaj.out 3).trans rfl; have zcd := blk_frozen zaj.out 0; have zce := blk_frozen zaj.out 1; have zcf := blk_frozen zaj.out 2; have zcg := blk_frozen zaj.out 3))
      refine bodyPost_ret (results_ct rfl _ _ zai 49 #[.int .i64 0, .slice none 0 0, .string (⟨#[]⟩ : ByteArray), .string (⟨#[]⟩ : ByteArray)] (0, 0) _ rfl (by refine M.fp (cs := #[.int .i64 0, .slice none 0 0, .string (⟨#[]⟩ : ByteArray), .string (⟨#[]⟩ : ByteArray)]) ?_ 3; refine M.fp (cs := #[.int .i64 0, .slice none 0 0, .string (⟨#[]⟩ : ByteArray), .string (⟨#[]⟩ : ByteArray)]) ?_ 2; refine M.fp (cs := #[.int .i64 0, .slice none 0 0, .string (⟨#[]⟩ : ByteArray), .string (⟨#[]⟩ : ByteArray)]) ?_ 1; refine M.fp (cs := #[.int .i64 0, .slice none 0 0, .string (⟨#[]⟩ : ByteArray), .string (⟨#[]⟩ : ByteArray)]) ?_ 0; exact M.bk zaj) Tryd.underlying49 rfl (by kernel_rfl)) rfl ?_
      exact ⟨_, M.eqe, M.nl, by repeat (first | (with_reducible first | exact HB.out | apply below_alloc | apply pw_below_drewN | apply below_drew1 | refine below_set ?_ (IsS95.ge HI207.out) | refine below_set ?_ zal.out | refine below_set ?_ zar.out) | exact HB.out)⟩
 ·rw [if_neg c4] at H
  have c4b0 : (t208 == 67) = false := beq_eq_false_iff_ne.mpr c4
  have c4b1 : (t208 != 67) = true := bne_iff_ne.mpr c4
  simp only [Option.some.injEq, Prod.mk.injEq] at H
  obtain ⟨rfl, rfl, rfl, rfl, rfl⟩ := H
  go_enter Tryd.func13, Tryd.ntmps13
  go_wp2_with (first | ((with_reducible refine gate_dst (N := 2) rfl ?_); refine M.bx 2 49 (#[.int .i64 0, .slice none 0 0, .string (⟨#[]⟩ : ByteArray), .string (⟨#[]⟩ : ByteArray)]) ?_; intro zai hg w61 hbox hb; have zaj := Aside0.mk (hbox); have zak := M.upG HB hg; have zal := M.upG HB hg; replace HB := M.upS HB hb; clear hb hbox hg) | ((with_reducible refine gate_callee (f := 23) rfl ?_); refine M.goes (some 7) Tryd.func23 #[.string a0] rfl ?_; (with_reducible refine (scan_New.calls a0 t203 t204 t205 t206 w _ ?side1 A2.out).mono ?_); (case side1 => repeat (first | (with_reducible first | exact HB.out | apply below_alloc | apply pw_below_drewN | apply below_drew1 | refine below_set ?_ zal.out) | exact HB.out)); rintro e w62 ⟨g207, rfl, hi, hb, hb2⟩; refine ⟨_, rfl, ?_⟩; replace HB := Aside0.mk (hb); have HI207 := Aside0.mk (hi); have zam := Aside0.mk (IsS95.ne_blk hi (blk_below (g := zai) (o := .cells #[.int .i64 0, .slice none 0 0, .string (⟨#[]⟩ : ByteArray), .string (⟨#[]⟩ : ByteArray)] 49 (0, 0)) (M.bk zaj) hb2) (by decide)); have zan := Aside0.mk (Ne.symm (IsS95.ne_blk hi (blk_below (g := zai) (o := .cells #[.int .i64 0, .slice none 0 0, .string (⟨#[]⟩ : ByteArray), .string (⟨#[]⟩ : ByteArray)] 49 (0, 0)) (M.bk zaj) hb2) (by decide))); replace zaj := M.bkB zaj hb2; (try clear hb); (try clear hb2); (try clear hi)) | ((with_reducible refine gate_callee (f := 24) rfl ?_); refine M.goes (some 9) Tryd.func24 #[.pointer (some ⟨g207, 0, none⟩)] rfl ?_; (with_reducible refine (scan_Scan_Byte.calls g207 t203 t204 t205 t206 t208 t209 t210 t211 t212 w _ ?side1 ?side2 A3.out).mono ?_); (case side1 => repeat (first | (with_reducible first | exact HI207.out | apply IsS95.alloc | apply IsS95.drewN | apply IsS95.drew | apply IsS95.set_0 | apply IsS95.set_1 | apply IsS95.set_2 | apply IsS95.set_3 | refine IsS95.far ?_ zam.out _) | exact HI207.out)); (case side2 => repeat (first | (with_reducible first | exact HB.out | apply below_alloc | apply pw_below_drewN | apply below_drew1 | refine below_set ?_ (IsS95.ge HI207.out) | refine below_set ?_ zal.out) | exact HB.out)); rintro e w63 ⟨rfl, hi, hb, hk⟩; refine ⟨_, rfl, ?_⟩; replace zaj := Aside0.mk (KeepBut.blk hk (g' := zai) (o := .cells #[.int .i64 0, .slice none 0 0, .string (⟨#[]⟩ : ByteArray), .string (⟨#[]⟩ : ByteArray)] 49 (0, 0)) (M.bk zaj) zan.out (by simp)); replace HB := Aside0.mk (hb); replace HI207 := Aside0.mk (hi); (try clear hb); (try clear hk); (try clear hi); have zch := zan.out; have zci := zam.out; have zcj : w63.cell? ⟨zai, 0, none⟩ = some (.int .i64 0) := (blk_cell zaj.out 0).trans rfl; have zck : w63.cell? ⟨zai, 1, none⟩ = some (.slice none 0 0) := (blk_cell zaj.out 1).trans rfl; have zcl : w63.cell? ⟨zai, 2, none⟩ = some (.string (⟨#[]⟩ : ByteArray)) := (blk_cell zaj.out 2).trans rfl; have zcm : w63.cell? ⟨zai, 3, none⟩ = some (.string (⟨#[]⟩ : ByteArray)) := (blk_cell zaj.out 3).trans rfl; have zcn := blk_frozen zaj.out 0; have zco := blk_frozen zaj.out 1; have zcp := blk_frozen zaj.out 2; have zcq := blk_frozen zaj.out 3))
  refine bodyPost_ret (results_ct rfl _ _ zai 49 #[.int .i64 0, .slice none 0 0, .string (⟨#[]⟩ : ByteArray), .string (⟨#[]⟩ : ByteArray)] (0, 0) _ rfl (by refine M.fp (cs := #[.int .i64 0, .slice none 0 0, .string (⟨#[]⟩ : ByteArray), .string (⟨#[]⟩ : ByteArray)]) ?_ 3; refine M.fp (cs := #[.int .i64 0, .slice none 0 0, .string (⟨#[]⟩ : ByteArray), .string (⟨#[]⟩ : ByteArray)]) ?_ 2; refine M.fp (cs := #[.int .i64 0, .slice none 0 0, .string (⟨#[]⟩ : ByteArray), .string (⟨#[]⟩ : ByteArray)]) ?_ 1; refine M.fp (cs := #[.int .i64 0, .slice none 0 0, .string (⟨#[]⟩ : ByteArray), .string (⟨#[]⟩ : ByteArray)]) ?_ 0; exact M.bk zaj) Tryd.underlying49 rfl (by kernel_rfl)) rfl ?_
  exact ⟨_, M.eqe, M.nl, by repeat (first | (with_reducible first | exact HB.out | apply below_alloc | apply pw_below_drewN | apply below_drew1 | refine below_set ?_ (IsS95.ge HI207.out) | refine below_set ?_ zal.out) | exact HB.out)⟩
def commit_Take.no : Int × List ByteArray × ByteArray × ByteArray × Int := (0, [], ⟨#[]⟩, ⟨#[]⟩, 3)
def commit_Take.f (a0 : ByteArray) : Option (Int × List ByteArray × ByteArray × ByteArray × Int) := if a0.size ≤ 9223372036854775806 then some (if M.cgood a0 then ((M.cN a0).1, (M.cP a0).1, (M.cG a0).1, (M.cT a0).1, 0) else commit_Take.no) else none
def commit_Take.fin (s : ByteArray) (n : Int) (ps : List ByteArray) (p er : Int) : Int × List ByteArray × ByteArray × ByteArray × Int :=
  if M.xend s (M.xtext s (M.xfix s p er 32).2.1 (M.xfix s p er 32).2.2 40).2.1 (M.xtext s (M.xfix s p er 32).2.1 (M.xfix s p er 32).2.2 40).2.2 = 0 ∧ M.isC n ps (M.xfix s p er 32).1 (M.xtext s (M.xfix s p er 32).2.1 (M.xfix s p er 32).2.2 40).1 then (n, ps, (M.xfix s p er 32).1, (M.xtext s (M.xfix s p er 32).2.1 (M.xfix s p er 32).2.2 40).1, 0) else commit_Take.no
theorem commit_Take.loop (s : ByteArray) (n m : Int) (hm : m ≤ 2) (d : Nat) : ∀ (i : Nat) (p er : Int) (ps : List ByteArray), (i : Int) + d = m → M.sok s p → ps.length ≤ 100 + i →
    commit_Take_p.l0 (d + 1) m (i : Int) s p er true n ps ⟨#[]⟩ ⟨#[]⟩ = some (commit_Take.fin s n (ps ++ (M.cfixes s d p er).1) (M.cfixes s d p er).2.1 (M.cfixes s d p er).2.2) := by
 induction d with
 | zero =>
  intro i p er ps hi hs hl
  have hk := M.xfix_ok s er 32 hs
  rw [commit_Take_p.l0, if_neg (by omega)]
  unfold scan_Scan_Fix.f scan_Scan_take.f
  rw [if_pos rfl, if_pos ⟨hs, by decide, by decide⟩, Option.bind_some]
  simp only
  unfold scan_Scan_Text.f
  rw [if_pos rfl, if_pos ⟨hk, by decide⟩, Option.bind_some]
  simp only
  rw [scan_Scan_End.eq, Option.bind_some]
  simp only [M.cfixes, List.append_nil]
  unfold commit_Take.fin commit_Check.f
  by_cases h0 : M.xend s (M.xtext s (M.xfix s p er 32).2.1 (M.xfix s p er 32).2.2 40).2.1 (M.xtext s (M.xfix s p er 32).2.1 (M.xfix s p er 32).2.2 40).2.2 = 0
  ·rw [if_pos h0, Option.bind_some]
   by_cases h1 : M.isC n ps (M.xfix s p er 32).1 (M.xtext s (M.xfix s p er 32).2.1 (M.xfix s p er 32).2.2 40).1
   ·rw [if_pos h1, if_pos rfl, if_pos ⟨h0, h1⟩]
   ·rw [if_neg h1, if_neg (by decide), if_neg (fun z => h1 z.2)]; rfl
  ·rw [if_neg h0, if_neg (fun z => h0 z.1)]; rfl
 | succ d ih =>
  intro i p er ps hi hs hl
  have hk := M.xfix_ok s er 32 hs
  have hi1 : wrap64 ((i : Int) + 1) = ((i + 1 : Nat) : Int) := by rw [M.wrap64_id (by omega) (by omega)]; omega
  rw [commit_Take_p.l0, if_pos (by omega), hi1]
  unfold scan_Scan_Fix.f scan_Scan_take.f
  rw [if_pos rfl, if_pos ⟨hs, by decide, by decide⟩, Option.bind_some]
  simp only
  rw [if_pos (by omega), ih (i + 1) _ _ _ (by omega) hk (by simp; omega)]
  simp only [M.cfixes, List.append_assoc, List.singleton_append]
theorem commit_Take.ev (s : ByteArray) (r : Int × List ByteArray × ByteArray × ByteArray × Int) (h : commit_Take.f s = some r) : ∃ k, commit_Take_p.f k s = some r := by
 unfold commit_Take.f at h
 split at h
 case isFalse => cases h
 case isTrue hz =>
  have h0 : M.sok s 0 := M.sok0 (by omega)
  have hb := M.xbyte_ok s 0 h0
  have hN := M.cN_ok (s := s) (by omega)
  have hM := M.cM_range (s := s) (by omega)
  have hMo := M.cM_ok (s := s) (by omega)
  refine ⟨(M.cM s).1.toNat + 1, ?_⟩
  rw [← h]
  unfold commit_Take_p.f scan_New.f scan_Scan_Byte.f
  simp only [Option.bind_some]
  simp only [if_true, if_pos h0, Option.bind_some]
  by_cases c1 : (M.xbyte s 0 0).1 = 67
  ·rw [if_pos c1, scan_Scan_Num.eq _ _ _ _ hb (by decide), Option.bind_some]
   simp only
   rw [show M.xnum s (M.xbyte s 0 0).2.1 (M.xbyte s 0 0).2.2 4294967295 = M.cN s from rfl, scan_Scan_Num.eq _ _ _ _ hN (by decide), Option.bind_some]
   simp only
   rw [show M.xnum s (M.cN s).2.1 (M.cN s).2.2 2 = M.cM s from rfl]
   have := commit_Take.loop s (M.cN s).1 (M.cM s).1 hM.2 (M.cM s).1.toNat 0 (M.cM s).2.1 (M.cM s).2.2 [] (by omega) hMo (by simp)
   rw [List.nil_append, show ((0 : Nat) : Int) = 0 from rfl] at this
   rw [this]
   congr 1
   show commit_Take.fin s (M.cN s).1 (M.cP s).1 (M.cP s).2.1 (M.cP s).2.2 = _
   unfold commit_Take.fin
   by_cases c2 : M.cgood s
   ·rw [if_pos c2]
    exact if_pos c2.2
   ·rw [if_neg c2]
    exact if_neg (fun z => c2 ⟨c1, z⟩)
  ·rw [if_neg c1, if_neg (fun z => c1 z.1)]; rfl
theorem commit_Take.calls (a0 : ByteArray) (r1 : Int) (r2 : List ByteArray) (r3 : ByteArray) (r4 : ByteArray) (r5 : Int) (w : World) (h : commit_Take.f a0 = some (r1, r2, r3, r4, r5)) :
    Calls Tryd.prog 13 #[.string a0] w fun e w' => ∃ v1_ : Value, e = .returned (.tuple #[.agg #[.int .i64 r1, v1_, .string r3, .string r4], .int .i64 r5]) ∧ Kd.R Kd.string 9 w' w.heap.size (fun _ => True) v1_ r2 ∧ Below w.heap.size w w' := by
 obtain ⟨k, hk⟩ := commit_Take.ev _ _ h
 exact commit_Take_p.calls (k := k) (w := w) (h := hk)
def slices_Clone_string_string.lay_ren : Go.Shelf.Ren := ⟨fun | 16 => 14 | n => n, fun | 4 => 4 | 9 => 9 | 24 => 23 | n => n, fun | n => n⟩
theorem slices_Clone_string_string.lay : Go.Proofs.Lays2.n16 Tryd.prog slices_Clone_string_string.lay_ren := {
  mixed := by kernel_rfl
  f16 := Tryd.func14.trans (congrArg some (by kernel_rfl))
  t4 := Tryd.underlying4
  a4 := Tryd.isAgg4
  z4 := Tryd.sizeOf4
  v4 := Tryd.zeroValue4
  t9 := Tryd.underlying9
  a9 := Tryd.isAgg9
  z9 := Tryd.sizeOf9
  v9 := Tryd.zeroValue9
  t24 := Tryd.underlying23
  a24 := Tryd.isAgg23
  z24 := Tryd.sizeOf23
  v24 := Tryd.zeroValue23
  i9 := by kernel_rfl }
def slices_Clone_string_string.f (l0 : List ByteArray) : Option (List ByteArray) := if l0.length * 16 ≤ 140737488355328 then some l0 else none
theorem slices_Clone_string_string.calls (A0 : Option Addr) (c0 : Nat) (l0 : List ByteArray) (r : List ByteArray) (w : World) (hr0 : Kd.C Kd.string w A0 l0.length l0) (hc0 : l0.length ≤ c0) (h : slices_Clone_string_string.f l0 = some r) :
    Calls Tryd.prog 14 #[.slice A0 l0.length c0] w fun e w' => ∃ v0_ : Value, e = .returned (v0_) ∧ Kd.R Kd.string 9 w' w.heap.size (fun _ => True) v0_ r ∧ Below w.heap.size w w' := by
 unfold slices_Clone_string_string.f at h
 split at h
 case isFalse => cases h
 case isTrue hh =>
  obtain rfl := Option.some.inj h
  refine (M.clone_any slices_Clone_string_string.lay A0 c0 l0 w hr0 hh).mono ?_
  rintro e w' ⟨v, rfl, ho, hb⟩
  exact ⟨v, rfl, M.row_in ho, hb⟩
end Go.Proofs.YtkjbhgolillidaaDoor.EMarkNames
