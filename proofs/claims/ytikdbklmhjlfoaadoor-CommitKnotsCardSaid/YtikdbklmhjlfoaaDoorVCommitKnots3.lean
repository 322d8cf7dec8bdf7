-- Laid by this session's own program (wip/tools/fold.py): this session's texts, cut to what the claim names and put together; Lean checks it.
import Derived.Test.YtikdbklmhjlfoaaDoorVCommitKnots1
import Derived.Test.YtikdbklmhjlfoaaDoorVCommitKnots2
import Derived.Test.YtikdbklmhjlfoaaDoorXCommitKnots1
namespace Go.Proofs.YtikdbklmhjlfoaaDoor.ECommitKnots
open Go.RowKit Go.Proofs.YtikdbklmhjlfoaaDoorW.PrintWords Go.Proofs.YtikdbklmhjlfoaaDoorW.PrintLast Go.Proofs.YtikdbklmhjlfoaaDoorW.PrintMore
attribute [local go_sem] M.run_leq M.run_gtr M.run_geq max2_int min2_int max_two min_two max_three min_three max_four min_four
set_option linter.unusedVariables false
set_option linter.unusedSimpArgs false
def commit_Take_p.l0 : Nat → Int → Int → ByteArray → Int → Int → Bool → Int → List ByteArray → ByteArray → ByteArray → Option (Int × List ByteArray × ByteArray × ByteArray × Int)
  | 0, _, _, _, _, _, _, _, _, _, _ => none
  | k + 1, x16, x17, zaa, zab, zac, zad, zae, zaf, zag, zah => if x17 < x16 then ((scan_Scan_Fix.f zaa zab zac zad 32).bind fun bt157 => (if zaf.length < 8796093022208 then (commit_Take_p.l0 k x16 (wrap64 (x17 + 1)) bt157.2.1 bt157.2.2.1 bt157.2.2.2.1 bt157.2.2.2.2 zae (zaf ++ [bt157.1]) zag zah) else (none))) else ((scan_Scan_Fix.f zaa zab zac zad 32).bind fun bt165 => ((scan_Scan_Text.f bt165.2.1 bt165.2.2.1 bt165.2.2.2.1 bt165.2.2.2.2 40).bind fun bt170 => ((scan_Scan_End.f bt170.2.1 bt170.2.2.1 bt170.2.2.2.1 bt170.2.2.2.2).bind fun bt175 => (if bt175.1 = 0 then ((commit_Check.f zae zaf bt165.1 bt170.1).bind fun t180 => (if t180 = 0 then (some (zae, zaf, bt165.1, bt170.1, 0)) else (some (0, ([] : List ByteArray), (⟨#[]⟩ : ByteArray), (⟨#[]⟩ : ByteArray), 3)))) else (some (0, ([] : List ByteArray), (⟨#[]⟩ : ByteArray), (⟨#[]⟩ : ByteArray), 3))))))
def commit_Take_p.f (k : Nat) (a0 : ByteArray) : Option (Int × List ByteArray × ByteArray × ByteArray × Int) := (scan_New.f a0).bind fun bt136 => ((scan_Scan_Byte.f bt136.1 bt136.2.1 bt136.2.2.1 bt136.2.2.2).bind fun bt141 => (if bt141.1 = 67 then ((scan_Scan_Num.f bt141.2.1 bt141.2.2.1 bt141.2.2.2.1 bt141.2.2.2.2 4294967295).bind fun bt146 => ((scan_Scan_Num.f bt146.2.1 bt146.2.2.1 bt146.2.2.2.1 bt146.2.2.2.2 2).bind fun bt152 => (commit_Take_p.l0 k bt152.1 0 bt152.2.1 bt152.2.2.1 bt152.2.2.2.1 bt152.2.2.2.2 bt146.1 ([] : List ByteArray) (⟨#[]⟩ : ByteArray) (⟨#[]⟩ : ByteArray)))) else (some (0, ([] : List ByteArray), (⟨#[]⟩ : ByteArray), (⟨#[]⟩ : ByteArray), 3))))
theorem commit_Take_p.mono_l : ∀ k, (∀ y0 y1 y2 y3 y4 y5 y6 y7 y8 y9, LeO (commit_Take_p.l0 k y0 y1 y2 y3 y4 y5 y6 y7 y8 y9) (commit_Take_p.l0 (k + 1) y0 y1 y2 y3 y4 y5 y6 y7 y8 y9))
  | 0 => fun _ _ _ _ _ _ _ _ _ _ r h => by simp [commit_Take_p.l0] at h
  | k + 1 => by
    have ih0 := commit_Take_p.mono_l k
    · intro y0 y1 y2 y3 y4 y5 y6 y7 y8 y9
      unfold commit_Take_p.l0
      repeat' first
      | (with_reducible exact ih0 _ _ _ _ _ _ _ _ _ _)
      | (with_reducible exact LeO.refl _)
      | (with_reducible exact LeO.none _)
      | (with_reducible refine LeO.ite ?_ ?_)
      | (with_reducible refine LeO.bind ?_ (fun _ => ?_))
      | exact ih0 _ _ _ _ _ _ _ _ _ _
      | exact LeO.none _
      | refine LeO.ite ?_ ?_
      | refine LeO.bind ?_ (fun _ => ?_)
theorem commit_Take_p.mono : ∀ a0 k, LeO (commit_Take_p.f k a0) (commit_Take_p.f (k + 1) a0) := by
  intro a0 k
  have ih0 := commit_Take_p.mono_l k
  unfold commit_Take_p.f
  repeat' first
      | (with_reducible exact ih0 _ _ _ _ _ _ _ _ _ _)
      | (with_reducible exact LeO.refl _)
      | (with_reducible exact LeO.none _)
      | (with_reducible refine LeO.ite ?_ ?_)
      | (with_reducible refine LeO.bind ?_ (fun _ => ?_))
      | exact ih0 _ _ _ _ _ _ _ _ _ _
      | exact LeO.none _
      | refine LeO.ite ?_ ?_
      | refine LeO.bind ?_ (fun _ => ?_)
def commit_Take_p.T7 : Bool × List (List Nat × List Nat) := (true, [([], []), ([0], [0]), ([], []), ([2], [2]), ([3], [3]), ([1, 4, 3], [1, 4]), ([0, 1, 2, 3, 4, 5], []), ([6, 5, 5, 0, 1, 2, 3, 4, 5], [5, 6])])
def commit_Take_p.B7 : List Nat := [0, 1, 0, 4, 12, 31, 63, 127]
theorem commit_Take_p.tab7 : rtab .any (opsOf Tryd.f9 7) = commit_Take_p.T7 := by kernel_rfl
theorem commit_Take_p.bits7 : waitsOk commit_Take_p.T7.2 commit_Take_p.B7 = true := by kernel_rfl
set_option maxHeartbeats 8000000 in
set_option maxRecDepth 100000 in
theorem commit_Take_p.calls (k : Nat) (a0 : ByteArray) (r1 : Int) (r2 : List ByteArray) (r3 : ByteArray) (r4 : ByteArray) (r5 : Int) (w : World) (h : commit_Take_p.f k a0 = some (r1, r2, r3, r4, r5)) :
    Calls Tryd.prog 9 #[.string a0] w fun e w' => ∃ v1_ : Value, e = .returned (.tuple #[.agg #[.int .i64 r1, v1_, .string r3, .string r4], .int .i64 r5]) ∧ Kd.R Kd.string 9 w' w.heap.size (fun _ => True) v1_ r2 ∧ Below w.heap.size w w' := by
 have hu24 := Tryd.underlying24
 have HB := Aside0.mk (Below.refl w.heap.size w)
 have H : ((scan_New.f a0).bind fun bt136 => ((scan_Scan_Byte.f bt136.1 bt136.2.1 bt136.2.2.1 bt136.2.2.2).bind fun bt141 => (if bt141.1 = 67 then ((scan_Scan_Num.f bt141.2.1 bt141.2.2.1 bt141.2.2.2.1 bt141.2.2.2.2 4294967295).bind fun bt146 => ((scan_Scan_Num.f bt146.2.1 bt146.2.2.1 bt146.2.2.2.1 bt146.2.2.2.2 2).bind fun bt152 => (commit_Take_p.l0 k bt152.1 0 bt152.2.1 bt152.2.2.1 bt152.2.2.2.1 bt152.2.2.2.2 bt146.1 ([] : List ByteArray) (⟨#[]⟩ : ByteArray) (⟨#[]⟩ : ByteArray)))) else (some (0, ([] : List ByteArray), (⟨#[]⟩ : ByteArray), (⟨#[]⟩ : ByteArray), 3))))) = some (r1, r2, r3, r4, r5) := h
 clear h
 replace H := Option.bind_eq_some_iff.mp H
 obtain ⟨⟨t136, t137, t138, t139⟩, A20, H⟩ := H
 replace H : ((scan_Scan_Byte.f t136 t137 t138 t139).bind fun bt141 => (if bt141.1 = 67 then ((scan_Scan_Num.f bt141.2.1 bt141.2.2.1 bt141.2.2.2.1 bt141.2.2.2.2 4294967295).bind fun bt146 => ((scan_Scan_Num.f bt146.2.1 bt146.2.2.1 bt146.2.2.2.1 bt146.2.2.2.2 2).bind fun bt152 => (commit_Take_p.l0 k bt152.1 0 bt152.2.1 bt152.2.2.1 bt152.2.2.2.1 bt152.2.2.2.2 bt146.1 ([] : List ByteArray) (⟨#[]⟩ : ByteArray) (⟨#[]⟩ : ByteArray)))) else (some (0, ([] : List ByteArray), (⟨#[]⟩ : ByteArray), (⟨#[]⟩ : ByteArray), 3)))) = some (r1, r2, r3, r4, r5) := H
 have A2 := Aside0.mk A20
 clear A20
 replace H := Option.bind_eq_some_iff.mp H
 obtain ⟨⟨t141, t142, t143, t144, t145⟩, A30, H⟩ := H
 replace H : (if t141 = 67 then ((scan_Scan_Num.f t142 t143 t144 t145 4294967295).bind fun bt146 => ((scan_Scan_Num.f bt146.2.1 bt146.2.2.1 bt146.2.2.2.1 bt146.2.2.2.2 2).bind fun bt152 => (commit_Take_p.l0 k bt152.1 0 bt152.2.1 bt152.2.2.1 bt152.2.2.2.1 bt152.2.2.2.2 bt146.1 ([] : List ByteArray) (⟨#[]⟩ : ByteArray) (⟨#[]⟩ : ByteArray)))) else (some (0, ([] : List ByteArray), (⟨#[]⟩ : ByteArray), (⟨#[]⟩ : ByteArray), 3))) = some (r1, r2, r3, r4, r5) := H
 have A3 := Aside0.mk A30
 clear A30
 by_cases c4 : t141 = 67
 ·rw [if_pos c4] at H
  have c4b0 : (t141 == 67) = true := beq_iff_eq.mpr c4
  have c4b1 : (t141 != 67) = false := bne_eq_false_iff_eq.mpr c4
  clear c4
  replace H := Option.bind_eq_some_iff.mp H
  obtain ⟨⟨t146, t147, t148, t149, t150⟩, A50, H⟩ := H
  replace H : ((scan_Scan_Num.f t147 t148 t149 t150 2).bind fun bt152 => (commit_Take_p.l0 k bt152.1 0 bt152.2.1 bt152.2.2.1 bt152.2.2.2.1 bt152.2.2.2.2 t146 ([] : List ByteArray) (⟨#[]⟩ : ByteArray) (⟨#[]⟩ : ByteArray))) = some (r1, r2, r3, r4, r5) := H
  have A5 := Aside0.mk A50
  clear A50
  replace H := Option.bind_eq_some_iff.mp H
  obtain ⟨⟨t152, t153, t154, t155, t156⟩, A60, H⟩ := H
  replace H : (commit_Take_p.l0 k t152 0 t153 t154 t155 t156 t146 ([] : List ByteArray) (⟨#[]⟩ : ByteArray) (⟨#[]⟩ : ByteArray)) = some (r1, r2, r3, r4, r5) := H
  have A6 := Aside0.mk A60
  clear A60
  have H' := Aside0.mk H
  clear H
  go_enter Tryd.func9, Tryd.ntmps9
  go_wp2_with (first | ((with_reducible refine gate_dst (N := 2) rfl ?_); refine M.bx 2 24 (#[.int .i64 0, .slice none 0 0, .string (⟨#[]⟩ : ByteArray), .string (⟨#[]⟩ : ByteArray)]) ?_; intro zai hg w7 hbox hb; have zaj := Aside0.mk (hbox); have zak := M.upG HB hg; have zal := M.upG HB hg; replace HB := M.upS HB hb; clear hb hbox hg) | ((with_reducible refine gate_callee (f := 30) rfl ?_); refine M.goes (some 7) Tryd.func30 #[.string a0] rfl ?_; (with_reducible refine (scan_New.calls a0 t136 t137 t138 t139 w _ ?side1 A2.out).mono ?_); (case side1 => repeat (first | (with_reducible first | exact HB.out | apply below_alloc | apply pw_below_drewN | apply below_drew1 | refine below_set ?_ zal.out) | exact HB.out)); rintro e w8 ⟨g140, rfl, hi, hb, hb2⟩; refine ⟨_, rfl, ?_⟩; replace HB := Aside0.mk (hb); have HI140 := Aside0.mk (hi); have zam := Aside0.mk (IsS100.ne_blk hi (blk_below (g := zai) (o := .cells #[.int .i64 0, .slice none 0 0, .string (⟨#[]⟩ : ByteArray), .string (⟨#[]⟩ : ByteArray)] 24 (0, 0)) (M.bk zaj) hb2) (by decide)); have zan := Aside0.mk (Ne.symm (IsS100.ne_blk hi (blk_below (g := zai) (o := .cells #[.int .i64 0, .slice none 0 0, .string (⟨#[]⟩ : ByteArray), .string (⟨#[]⟩ : ByteArray)] 24 (0, 0)) (M.bk zaj) hb2) (by decide))); replace zaj := M.bkB zaj hb2; (try clear hb); (try clear hb2); (try clear hi)) | ((with_reducible refine gate_callee (f := 31) rfl ?_); refine M.goes (some 9) Tryd.func31 #[.pointer (some ⟨g140, 0, none⟩)] rfl ?_; (with_reducible refine (scan_Scan_Byte.calls g140 t136 t137 t138 t139 t141 t142 t143 t144 t145 w _ ?side1 ?side2 A3.out).mono ?_); (case side1 => repeat (first | (with_reducible first | exact HI140.out | apply IsS100.alloc | apply IsS100.drewN | apply IsS100.drew | apply IsS100.set_0 | apply IsS100.set_1 | apply IsS100.set_2 | apply IsS100.set_3 | refine IsS100.far ?_ zam.out _) | exact HI140.out)); (case side2 => repeat (first | (with_reducible first | exact HB.out | apply below_alloc | apply pw_below_drewN | apply below_drew1 | refine below_set ?_ (IsS100.ge HI140.out) | refine below_set ?_ zal.out) | exact HB.out)); rintro e w9 ⟨rfl, hi, hb, hk⟩; refine ⟨_, rfl, ?_⟩; replace zaj := Aside0.mk (KeepBut.blk hk (g' := zai) (o := .cells #[.int .i64 0, .slice none 0 0, .string (⟨#[]⟩ : ByteArray), .string (⟨#[]⟩ : ByteArray)] 24 (0, 0)) (M.bk zaj) zan.out (by simp)); replace HB := Aside0.mk (hb); replace HI140 := Aside0.mk (hi); (try clear hb); (try clear hk); (try clear hi)) | ((with_reducible refine gate_callee (f := 32) rfl ?_); refine M.goes (some 13) Tryd.func32 #[.pointer (some ⟨g140, 0, none⟩), .int .i64 4294967295] rfl ?_; (with_reducible refine (scan_Scan_Num.calls g140 t142 t143 t144 t145 4294967295 t146 t147 t148 t149 t150 w _ ?side1 ?side2 A5.out).mono ?_); (case side1 => repeat (first | (with_reducible first | exact HI140.out | apply IsS100.alloc | apply IsS100.drewN | apply IsS100.drew | apply IsS100.set_0 | apply IsS100.set_1 | apply IsS100.set_2 | apply IsS100.set_3 | refine IsS100.far ?_ zam.out _) | exact HI140.out)); (case side2 => repeat (first | (with_reducible first | exact HB.out | apply below_alloc | apply pw_below_drewN | apply below_drew1 | refine below_set ?_ (IsS100.ge HI140.out) | refine below_set ?_ zal.out) | exact HB.out)); rintro e w10 ⟨rfl, hi, hb, hk⟩; refine ⟨_, rfl, ?_⟩; replace zaj := Aside0.mk (KeepBut.blk hk (g' := zai) (o := .cells #[.int .i64 0, .slice none 0 0, .string (⟨#[]⟩ : ByteArray), .string (⟨#[]⟩ : ByteArray)] 24 (0, 0)) (M.bk zaj) zan.out (by simp)); replace HB := Aside0.mk (hb); replace HI140 := Aside0.mk (hi); (try clear hb); (try clear hk); (try clear hi)) | ((with_reducible refine gate_dst (N := 5) rfl ?_); refine M.bx 5 24 (#[.int .i64 0, .slice none 0 0, .string (⟨#[]⟩ : ByteArray), .string (⟨#[]⟩ : ByteArray)]) ?_; intro zao hg w11 hbox hb; have zap := Aside0.mk (hbox); have zaq := Aside0.mk ((by rw [hg]; exact (below_size (by repeat (first | (with_reducible first | exact HB.out | apply below_alloc | apply pw_below_drewN | apply below_drew1 | refine below_set ?_ (IsS100.ge HI140.out) | refine below_set ?_ zal.out) | exact HB.out))) : w.heap.size ≤ zao)); have zar := Aside0.mk ((by rw [hg]; exact (below_size (by repeat (first | (with_reducible first | exact HB.out | apply below_alloc | apply pw_below_drewN | apply below_drew1 | refine below_set ?_ (IsS100.ge HI140.out) | refine below_set ?_ zal.out) | exact HB.out))) : w.heap.size ≤ zao)); replace HB := Aside0.mk (below_step (by repeat (first | (with_reducible first | exact HB.out | apply below_alloc | apply pw_below_drewN | apply below_drew1 | refine below_set ?_ (IsS100.ge HI140.out) | refine below_set ?_ zal.out) | exact HB.out)) hb); have zas := M.bkL zaj hg; have zat := M.bkG zaj hg; replace zaj := M.bkB zaj hb; have zau := Aside0.mk ((by rw [hg]; exact Nat.ne_of_lt (IsS100.lt (show IsS100 w _ g140 t147 t148 t149 t150 from by repeat (first | (with_reducible first | exact HI140.out | apply IsS100.alloc | apply IsS100.drewN | apply IsS100.drew | apply IsS100.set_0 | apply IsS100.set_1 | apply IsS100.set_2 | apply IsS100.set_3 | refine IsS100.far ?_ zam.out _) | exact HI140.out))) : g140 ≠ zao)); have zav := Aside0.mk ((by rw [hg]; exact Nat.ne_of_gt (IsS100.lt (show IsS100 w _ g140 t147 t148 t149 t150 from by repeat (first | (with_reducible first | exact HI140.out | apply IsS100.alloc | apply IsS100.drewN | apply IsS100.drew | apply IsS100.set_0 | apply IsS100.set_1 | apply IsS100.set_2 | apply IsS100.set_3 | refine IsS100.far ?_ zam.out _) | exact HI140.out))) : zao ≠ g140)); replace HI140 := Aside0.mk (IsS100.below (by repeat (first | (with_reducible first | exact HI140.out | apply IsS100.alloc | apply IsS100.drewN | apply IsS100.drew | apply IsS100.set_0 | apply IsS100.set_1 | apply IsS100.set_2 | apply IsS100.set_3 | refine IsS100.far ?_ zam.out _) | exact HI140.out)) hb); clear hb hbox hg; have zaw := zat.out; have zax := zas.out; have zay := zav.out; have zaz := zau.out; have zaA : w11.cell? ⟨zao, 0, none⟩ = some (.int .i64 0) := (blk_cell zap.out 0).trans rfl; have zaB : w11.cell? ⟨zao, 1, none⟩ = some (.slice none 0 0) := (blk_cell zap.out 1).trans rfl; have zaC : w11.cell? ⟨zao, 2, none⟩ = some (.string (⟨#[]⟩ : ByteArray)) := (blk_cell zap.out 2).trans rfl; have zaD : w11.cell? ⟨zao, 3, none⟩ = some (.string (⟨#[]⟩ : ByteArray)) := (blk_cell zap.out 3).trans rfl; have zaE := blk_frozen zap.out 0; have zaF := blk_frozen zap.out 1; have zaG := blk_frozen zap.out 2; have zaH := blk_frozen zap.out 3) | ((with_reducible refine gate_callee (f := 32) rfl ?_); refine M.goes (some 16) Tryd.func32 #[.pointer (some ⟨g140, 0, none⟩), .int .i64 2] rfl ?_; (with_reducible refine (scan_Scan_Num.calls g140 t147 t148 t149 t150 2 t152 t153 t154 t155 t156 w _ ?side1 ?side2 A6.out).mono ?_); (case side1 => repeat (first | (with_reducible first | exact HI140.out | apply IsS100.alloc | apply IsS100.drewN | apply IsS100.drew | apply IsS100.set_0 | apply IsS100.set_1 | apply IsS100.set_2 | apply IsS100.set_3 | refine IsS100.far ?_ zam.out _ | refine IsS100.far ?_ zau.out _) | exact HI140.out)); (case side2 => repeat (first | (with_reducible first | exact HB.out | apply below_alloc | apply pw_below_drewN | apply below_drew1 | refine below_set ?_ (IsS100.ge HI140.out) | refine below_set ?_ zal.out | refine below_set ?_ zar.out) | exact HB.out)); rintro e w15 ⟨rfl, hi, hb, hk⟩; refine ⟨_, rfl, ?_⟩; replace zaj := Aside0.mk (KeepBut.blk hk (g' := zai) (o := .cells #[.int .i64 0, .slice none 0 0, .string (⟨#[]⟩ : ByteArray), .string (⟨#[]⟩ : ByteArray)] 24 (0, 0)) (by refine M.fr ?_ zas; refine M.fr ?_ zas; refine M.fr ?_ zas; refine M.fr ?_ zas; exact M.bk zaj) zan.out (by simp)); replace zap := Aside0.mk (KeepBut.blk hk (g' := zao) (o := .cells #[.int .i64 t146, .slice none 0 0, .string (⟨#[]⟩ : ByteArray), .string (⟨#[]⟩ : ByteArray)] 24 (0, 0)) (by refine M.fp (cs := #[.int .i64 t146, .slice none 0 0, .string (⟨#[]⟩ : ByteArray), .string (⟨#[]⟩ : ByteArray)]) ?_ 3; refine M.fp (cs := #[.int .i64 t146, .slice none 0 0, .string (⟨#[]⟩ : ByteArray), .string (⟨#[]⟩ : ByteArray)]) ?_ 2; refine M.fp (cs := #[.int .i64 t146, .slice none 0 0, .string (⟨#[]⟩ : ByteArray), .string (⟨#[]⟩ : ByteArray)]) ?_ 1; refine M.fp (cs := #[.int .i64 0, .slice none 0 0, .string (⟨#[]⟩ : ByteArray), .string (⟨#[]⟩ : ByteArray)]) ?_ 0; exact M.bk zap) zav.out (by simp)); replace HB := Aside0.mk (hb); replace HI140 := Aside0.mk (hi); (try clear hb); (try clear hk); (try clear hi)))
  go_loopg [17] k (fun kq v17 w' => ∃ (x17_1 : Int) (zaI : ByteArray) (zaJ : Int) (zaK : Int) (zaL : Bool) (zaM : List ByteArray) (zaN : Value), v17 = .int .i64 x17_1 ∧ Aside0 (commit_Take_p.l0 kq t152 x17_1 zaI zaJ zaK zaL t146 zaM (⟨#[]⟩ : ByteArray) (⟨#[]⟩ : ByteArray) = some (r1, r2, r3, r4, r5)) ∧ Aside0 (kq ≤ k) ∧ Aside0 (Kd.R Kd.string 9 w' w.heap.size (fun _ => True) zaN zaM) ∧ Aside0 (w'.heap[zai]? = some (.cells #[.int .i64 0, (.slice none 0 0), .string (⟨#[]⟩ : ByteArray), .string (⟨#[]⟩ : ByteArray)] 24 (0, 0))) ∧ Aside0 (w'.heap[zao]? = some (.cells #[.int .i64 t146, zaN, .string (⟨#[]⟩ : ByteArray), .string (⟨#[]⟩ : ByteArray)] 24 (0, 0))) ∧ Aside0 (IsS100 w w' g140 zaI zaJ zaK zaL) ∧ Aside0 (Below w.heap.size w w'))
  case atStart => exact ⟨(0), (t153), (t154), (t155), (t156), (([] : List ByteArray)), (.slice none 0 0), M.eqv, H', ⟨Nat.le_refl _⟩, ⟨M.nl⟩, ⟨M.bk zaj⟩, ⟨M.bk zap⟩, ⟨by repeat (first | (with_reducible first | exact HI140.out | apply IsS100.alloc | apply IsS100.drewN | apply IsS100.drew | apply IsS100.set_0 | apply IsS100.set_1 | apply IsS100.set_2 | apply IsS100.set_3 | refine IsS100.far ?_ zam.out _ | refine IsS100.far ?_ zau.out _) | exact HI140.out)⟩, ⟨by repeat (first | (with_reducible first | exact HB.out | apply below_alloc | apply pw_below_drewN | apply below_drew1 | refine below_set ?_ (IsS100.ge HI140.out) | refine below_set ?_ zal.out | refine below_set ?_ zar.out) | exact HB.out)⟩⟩
  case round =>
   clear H'
   (try clear c1); (try clear p2); (try clear c3); (try clear c4); (try clear c4b0); (try clear c4b1); (try clear c9); (try clear c12); (try clear c13); (try clear zaA); (try clear zaB); (try clear zaC); (try clear zaD); (try clear zaE); (try clear zaF); (try clear zaG); (try clear zaH)
   obtain ⟨x17_1, zaI, zaJ, zaK, zaL, zaM, zaN, rfl, HA, HK1, zaO, zaj, zap, HI140, HB⟩ := hrel
   cases gk with
   | zero => exact absurd HA.out (by simp [commit_Take_p.l0])
   | succ k1 =>
    have H := HA.out
    clear HA
    simp only [commit_Take_p.l0] at H
    by_cases c16 : x17_1 < t152
    ·rw [if_pos c16] at H
     have c16b0 := decide_eq_true c16
     clear c16
     replace H := Option.bind_eq_some_iff.mp H
     obtain ⟨⟨t157, t158, t159, t160, t161⟩, A170, H⟩ := H
     replace H : (if zaM.length < 8796093022208 then (commit_Take_p.l0 k1 t152 (wrap64 (x17_1 + 1)) t158 t159 t160 t161 t146 (zaM ++ [t157]) (⟨#[]⟩ : ByteArray) (⟨#[]⟩ : ByteArray)) else (none)) = some (r1, r2, r3, r4, r5) := H
     have A17 := Aside0.mk A170
     clear A170
     by_cases c18 : zaM.length < 8796093022208
     ·rw [if_pos c18] at H
      have LMc18 := Aside0.mk c18
      clear c18
      obtain ⟨y162, hy162⟩ : ∃ y_ : List ByteArray, y_ = (zaM ++ [t157]) := ⟨_, rfl⟩
      replace H : (commit_Take_p.l0 k1 t152 (wrap64 (x17_1 + 1)) t158 t159 t160 t161 t146 y162 (⟨#[]⟩ : ByteArray) (⟨#[]⟩ : ByteArray)) = some (r1, r2, r3, r4, r5) := by first | (rw [hy162]; with_reducible exact H) | (have H2_ := (Option.bind_some _ _).symm.trans H; rw [hy162]; with_reducible exact H2_) | (have H2_ := (Option.bind_some _ _).symm.trans H; with_reducible exact H2_) | with_reducible exact H | (rw [hy162]; exact H) | exact H
      have Ny162 := Aside0.mk hy162
      clear hy162
      have H' := Aside0.mk H
      clear H
      try go_wp2
      replace zaO := Aside0.mk (Kd.R_drew zaO.out); replace zaj := Aside0.mk (blk_drew zaj.out); replace zap := Aside0.mk (blk_drew zap.out); replace HI140 := Aside0.mk (IsS100.drew HI140.out); replace HB := Aside0.mk (below_drew1 HB.out)
      refine start_ (n := 8) (S := fun w' => w'.cell? ⟨zao, 0, none⟩ = some (.int .i64 t146) ∧ w'.cell? ⟨zao, 1, none⟩ = some (zaN) ∧ w'.cell? ⟨zao, 2, none⟩ = some (.string (⟨#[]⟩ : ByteArray)) ∧ w'.cell? ⟨zao, 3, none⟩ = some (.string (⟨#[]⟩ : ByteArray))) (ds := [7]) #[false, false, false, false, false, false, false, false] (by kernel_rfl) rfl rfl ⟨(blk_cell zap.out 0).trans rfl, (blk_cell zap.out 1).trans rfl, (blk_cell zap.out 2).trans rfl, (blk_cell zap.out 3).trans rfl⟩ (fun hHeld => ?_); refine with_tabW commit_Take_p.tab7 commit_Take_p.bits7 (fun HT_ HW_ => ?_)
      generalize wr.drew = w19 at zaO zaj zap HI140 HB hHeld ⊢
      refine M.pu 0 19 [1, 7] HT_ ?_
      refine M.pu 2 21 [1, 1, 1, 5] HT_ ?_
      refine M.tk 1 20 [3, 5] HT_ HW_ hHeld ?_
      refine one_ (i := 3) (N := some 22) #[true, true, true, true, false, false, false, false] rfl rfl (one_of HT_.out (by kernel_rfl)) (by decide) (fun K hK => ?_)
      refine goes_ Tryd.func33 (by kernel_rfl) rfl #[.pointer (some ⟨g140, 0, none⟩), .int .i64 32] (by rfl) rfl rfl (by (try simp only [List.map_toArray, List.map_cons, List.map_nil]); first | done | rfl | (simp only [List.length_drop, List.length_take]; rfl)) ?_
      with_reducible refine (scan_Scan_Fix.calls g140 zaI zaJ zaK zaL 32 t157 t158 t159 t160 t161 w _ ?side1 ?side2 A17.out).mono ?_
      (case side1 => repeat (first | (with_reducible first | exact HI140.out | apply IsS100.alloc | apply IsS100.drewN | apply IsS100.drew | apply IsS100.set_0 | apply IsS100.set_1 | apply IsS100.set_2 | apply IsS100.set_3 | refine IsS100.far ?_ zam.out _ | refine IsS100.far ?_ zau.out _) | exact HI140.out))
      (case side2 => repeat (first | (with_reducible first | exact HB.out | apply below_alloc | apply pw_below_drewN | apply below_drew1 | refine below_set ?_ (IsS100.ge HI140.out) | refine below_set ?_ zal.out | refine below_set ?_ zar.out) | exact HB.out))
      rintro e w20 ⟨rfl, hi, hb, hk⟩
      refine ⟨_, rfl, ?_⟩
      replace zaO := Aside0.mk (Kd.R_mono (Kd.R_keep (IsS100.apart (show IsS100 w _ g140 zaI zaJ zaK zaL from by repeat (first | (with_reducible first | exact HI140.out | apply IsS100.alloc | apply IsS100.drewN | apply IsS100.drew | apply IsS100.set_0 | apply IsS100.set_1 | apply IsS100.set_2 | apply IsS100.set_3 | refine IsS100.far ?_ zam.out _ | refine IsS100.far ?_ zau.out _) | exact HI140.out)) (M.ro zaO) (by decide)) hk (fun _ h => h.2)) (fun _ h => h.1)); replace zaj := Aside0.mk (KeepBut.blk hk (g' := zai) (o := .cells #[.int .i64 0, .slice none 0 0, .string (⟨#[]⟩ : ByteArray), .string (⟨#[]⟩ : ByteArray)] 24 (0, 0)) (M.bk zaj) zan.out (by simp)); replace zap := Aside0.mk (KeepBut.blk hk (g' := zao) (o := .cells #[.int .i64 t146, zaN, .string (⟨#[]⟩ : ByteArray), .string (⟨#[]⟩ : ByteArray)] 24 (0, 0)) (M.bk zap) zav.out (by simp)); replace HB := Aside0.mk (hb); replace HI140 := Aside0.mk (hi)
      (try clear hb)
      (try clear hb2)
      (try clear hk)
      (try clear hi)
      refine hK.out _ _ ⟨(blk_cell zap.out 0).trans rfl, (blk_cell zap.out 1).trans rfl, (blk_cell zap.out 2).trans rfl, (blk_cell zap.out 3).trans rfl⟩ (fun hHeld => ?_)
      clear hK K
      refine norm_ (a' := ?_) ?_ ?_
      rotate_left
      ·show Act.put _ (some 22) _ = _
       simp only [Act.put, List.setIfInBounds_toArray, List.set_cons_zero, List.set_cons_succ, i64_w, i32_w]
       rfl
      refine one_ (i := 4) (N := some 23) #[true, true, true, true, true, false, false, false] rfl rfl (one_of HT_.out (by kernel_rfl)) (by decide) (fun K hK => ?_)
      refine value_ (w1 := ?_) (v := ?_) (by rfl) rfl ?_ ?_
      rotate_left 2
      ·go_simp
       constructor
       ·rfl
       ·rfl
      refine hK.out _ _ ⟨(blk_cell (blk_alloc zap.out _) 0).trans rfl, (blk_cell (blk_alloc zap.out _) 1).trans rfl, (blk_cell (blk_alloc zap.out _) 2).trans rfl, (blk_cell (blk_alloc zap.out _) 3).trans rfl⟩ (fun hHeld => ?_)
      clear hK K
      refine norm_ (a' := ?_) ?_ ?_
      rotate_left
      ·show Act.put _ (some 23) _ = _
       simp only [Act.put, List.setIfInBounds_toArray, List.set_cons_zero, List.set_cons_succ, i64_w, i32_w]
       rfl
      refine one_ (i := 5) (N := some 24) #[true, true, true, true, true, true, false, false] rfl rfl (one_of HT_.out (by kernel_rfl)) (by decide) (fun K hK => ?_)
      refine Kd.R_append_step Kd.string (w0 := w) w.heap.size (by rfl) (.tmp 20) (.tmp 23) 22 9 (.string ⟨#[]⟩) 16 rfl Tryd.underlying22 info9 rfl (by decide) (by omega) zaN zaM t157 [.string t157] (fun _ => True) (fun _ => False) rfl rfl ?aP (fun _ hk => hk.elim) ?aF ?aO ?aB ?aS ?aL ?_
      (case aP => exact rfl)
      (case aB => exact (by repeat (first | (with_reducible first | exact HB.out | apply below_alloc | apply pw_below_drewN | apply below_drew1 | refine below_set ?_ (IsS100.ge HI140.out) | refine below_set ?_ zal.out | refine below_set ?_ zar.out) | exact HB.out)))
      (case aF => exact (fun _ _ => trivial))
      (case aO => exact (M.ro zaO))
      (case aS => exact (below_size (by repeat (first | (with_reducible first | exact HB.out | apply below_alloc | apply pw_below_drewN | apply below_drew1 | refine below_set ?_ (IsS100.ge HI140.out) | refine below_set ?_ zal.out | refine below_set ?_ zar.out) | exact HB.out))))
      (case aL => have := LMc18.out; omega)
      intro v163 w21 ho hb hg hat
      rw [← Ny162.out] at ho
      replace zaj := Aside0.mk (blk_grown (g := zai) (o := .cells #[.int .i64 0, .slice none 0 0, .string (⟨#[]⟩ : ByteArray), .string (⟨#[]⟩ : ByteArray)] 24 (0, 0)) (M.bk zaj) hg (Kd.R_ne zaO.out zaj.out (by decide))); replace zap := Aside0.mk (blk_grown (g := zao) (o := .cells #[.int .i64 t146, zaN, .string (⟨#[]⟩ : ByteArray), .string (⟨#[]⟩ : ByteArray)] 24 (0, 0)) (M.bk zap) hg (Kd.R_ne zaO.out zap.out (by decide))); replace HI140 := Aside0.mk (IsS100.grown (by first | exact HI140.out | exact IsS100.far HI140.out zam.out _ | exact IsS100.far HI140.out zau.out _ | (repeat (first | (with_reducible first | exact HI140.out | apply IsS100.alloc | apply IsS100.drewN | apply IsS100.drew | apply IsS100.set_0 | apply IsS100.set_1 | apply IsS100.set_2 | apply IsS100.set_3 | refine IsS100.far ?_ zam.out _ | refine IsS100.far ?_ zau.out _) | exact HI140.out))) hg (IsS100.own_ne HI140.out zaO.out (by decide))); replace HB := Aside0.mk (hb); have HO164 := Aside0.mk (ho); clear zaO
      clear ho hb hg hat
      obtain ⟨Ao22, co22, eo22⟩ := Kd.R_slice HO164.out
      (first | subst eo22 | (injection eo22 with f1_ f2_ f3_; have f4_ := f1_.symm; have f5_ := f3_.symm; clear f1_ f2_ f3_; subst f4_; subst f5_))
      refine hK.out _ _ ⟨(blk_cell zap.out 0).trans rfl, (blk_cell zap.out 1).trans rfl, (blk_cell zap.out 2).trans rfl, (blk_cell zap.out 3).trans rfl⟩ (fun hHeld => ?_)
      clear hK K
      refine norm_ (a' := ?_) ?_ ?_
      rotate_left
      ·show Act.put _ (some 24) _ = _
       simp only [Act.put, List.setIfInBounds_toArray, List.set_cons_zero, List.set_cons_succ, i64_w, i32_w]
       rfl
      refine M.pu 6 25 [7, 1] HT_ ?_
      refine last_ (i := 7) (N := none) #[true, true, true, true, true, true, true, true] rfl rfl (one_of HT_.out (by kernel_rfl)) (by decide) (fun K hK => ?_)
      have hs23 : w21.cell? ⟨zao, 1, none⟩ = some (zaN) := (blk_cell zap.out 1).trans rfl
      have hfs23 := blk_frozen zap.out 1
      have hns23_0 := zas.out
      have hms23_0 := zat.out
      refine skip_ (w1 := ?_) (by rfl) rfl ?_ ?_
      rotate_left
      ·go_simp
       rfl
      refine hK.out _ _ ?_
      clear hK K
      refine done_ (done_of HT_.out (by kernel_rfl)) ?_
      try go_wp2
      go_roundg k1
      case measure => have := HK1.out; omega
      case rel => exact ⟨(wrap64 (x17_1 + 1)), (t158), (t159), (t160), (t161), (y162), (.slice Ao22 y162.length co22), M.eqv, H', ⟨by have := HK1.out; omega⟩, ⟨by (with_reducible repeat (first | apply Kd.R_alloc | apply Kd.R_drewN | apply Kd.R_drew)); exact Kd.R_mono (Kd.R_far (p := ⟨zao, 1, none⟩) (Kd.R_types HO164.out zap.out (by decide)) (fun _ hk => hk.2) (.slice Ao22 y162.length co22)) (fun _ hk => trivial)⟩, ⟨by refine M.fr ?_ zas; exact M.bk zaj⟩, ⟨by refine M.fp (cs := #[.int .i64 t146, zaN, .string (⟨#[]⟩ : ByteArray), .string (⟨#[]⟩ : ByteArray)]) ?_ 1; exact M.bk zap⟩, ⟨by repeat (first | (with_reducible first | exact HI140.out | apply IsS100.alloc | apply IsS100.drewN | apply IsS100.drew | apply IsS100.set_0 | apply IsS100.set_1 | apply IsS100.set_2 | apply IsS100.set_3 | refine IsS100.far ?_ zam.out _ | refine IsS100.far ?_ zau.out _) | exact HI140.out)⟩, ⟨by repeat (first | (with_reducible first | exact HB.out | apply below_alloc | apply pw_below_drewN | apply below_drew1 | refine below_set ?_ (IsS100.ge HI140.out) | refine below_set ?_ zal.out | refine below_set ?_ zar.out) | exact HB.out)⟩⟩
     ·exact M.nf c18 H
    ·rw [if_neg c16] at H
     have c16b0 := decide_eq_false c16
     clear c16
     replace H := Option.bind_eq_some_iff.mp H
     obtain ⟨⟨t165, t166, t167, t168, t169⟩, A240, H⟩ := H
     replace H : ((scan_Scan_Text.f t166 t167 t168 t169 40).bind fun bt170 => ((scan_Scan_End.f bt170.2.1 bt170.2.2.1 bt170.2.2.2.1 bt170.2.2.2.2).bind fun bt175 => (if bt175.1 = 0 then ((commit_Check.f t146 zaM t165 bt170.1).bind fun t180 => (if t180 = 0 then (some (t146, zaM, t165, bt170.1, 0)) else (some (0, ([] : List ByteArray), (⟨#[]⟩ : ByteArray), (⟨#[]⟩ : ByteArray), 3)))) else (some (0, ([] : List ByteArray), (⟨#[]⟩ : ByteArray), (⟨#[]⟩ : ByteArray), 3))))) = some (r1, r2, r3, r4, r5) := H
     have A24 := Aside0.mk A240
     clear A240
     replace H := Option.bind_eq_some_iff.mp H
     obtain ⟨⟨t170, t171, t172, t173, t174⟩, A250, H⟩ := H
     replace H : ((scan_Scan_End.f t171 t172 t173 t174).bind fun bt175 => (if bt175.1 = 0 then ((commit_Check.f t146 zaM t165 t170).bind fun t180 => (if t180 = 0 then (some (t146, zaM, t165, t170, 0)) else (some (0, ([] : List ByteArray), (⟨#[]⟩ : ByteArray), (⟨#[]⟩ : ByteArray), 3)))) else (some (0, ([] : List ByteArray), (⟨#[]⟩ : ByteArray), (⟨#[]⟩ : ByteArray), 3)))) = some (r1, r2, r3, r4, r5) := H
     have A25 := Aside0.mk A250
     clear A250
     replace H := Option.bind_eq_some_iff.mp H
     obtain ⟨⟨t175, t176, t177, t178, t179⟩, A260, H⟩ := H
     replace H : (if t175 = 0 then ((commit_Check.f t146 zaM t165 t170).bind fun t180 => (if t180 = 0 then (some (t146, zaM, t165, t170, 0)) else (some (0, ([] : List ByteArray), (⟨#[]⟩ : ByteArray), (⟨#[]⟩ : ByteArray), 3)))) else (some (0, ([] : List ByteArray), (⟨#[]⟩ : ByteArray), (⟨#[]⟩ : ByteArray), 3))) = some (r1, r2, r3, r4, r5) := H
     have A26 := Aside0.mk A260
     clear A260
     by_cases c27 : t175 = 0
     ·rw [if_pos c27] at H
      have c27b0 : (t175 == 0) = true := beq_iff_eq.mpr c27
      have c27b1 : (t175 != 0) = false := bne_eq_false_iff_eq.mpr c27
      clear c27
      replace H := Option.bind_eq_some_iff.mp H
      obtain ⟨t180, A280, H⟩ := H
      replace H : (if t180 = 0 then (some (t146, zaM, t165, t170, 0)) else (some (0, ([] : List ByteArray), (⟨#[]⟩ : ByteArray), (⟨#[]⟩ : ByteArray), 3))) = some (r1, r2, r3, r4, r5) := H
      have A28 := Aside0.mk A280
      clear A280
      by_cases c29 : t180 = 0
      ·rw [if_pos c29] at H
       have c29b0 : (t180 == 0) = true := beq_iff_eq.mpr c29
       have c29b1 : (t180 != 0) = false := bne_eq_false_iff_eq.mpr c29
       clear c29
       simp only [Option.some.injEq, Prod.mk.injEq] at H
       obtain ⟨rfl, rfl, rfl, rfl, rfl⟩ := H
       go_wp2_with (first | ((with_reducible refine gate_callee (f := 33) rfl ?_); refine M.goes (some 28) Tryd.func33 #[.pointer (some ⟨g140, 0, none⟩), .int .i64 32] rfl ?_; (with_reducible refine (scan_Scan_Fix.calls g140 zaI zaJ zaK zaL 32 t165 t166 t167 t168 t169 w _ ?side1 ?side2 A24.out).mono ?_); (case side1 => repeat (first | (with_reducible first | exact HI140.out | apply IsS100.alloc | apply IsS100.drewN | apply IsS100.drew | apply IsS100.set_0 | apply IsS100.set_1 | apply IsS100.set_2 | apply IsS100.set_3 | refine IsS100.far ?_ zam.out _ | refine IsS100.far ?_ zau.out _) | exact HI140.out)); (case side2 => repeat (first | (with_reducible first | exact HB.out | apply below_alloc | apply pw_below_drewN | apply below_drew1 | refine below_set ?_ (IsS100.ge HI140.out) | refine below_set ?_ zal.out | refine below_set ?_ zar.out) | exact HB.out)); rintro e w30 ⟨rfl, hi, hb, hk⟩; refine ⟨_, rfl, ?_⟩; replace zaO := Aside0.mk (Kd.R_mono (Kd.R_keep (IsS100.apart (show IsS100 w _ g140 zaI zaJ zaK zaL from by repeat (first | (with_reducible first | exact HI140.out | apply IsS100.alloc | apply IsS100.drewN | apply IsS100.drew | apply IsS100.set_0 | apply IsS100.set_1 | apply IsS100.set_2 | apply IsS100.set_3 | refine IsS100.far ?_ zam.out _ | refine IsS100.far ?_ zau.out _) | exact HI140.out)) (M.ro zaO) (by decide)) hk (fun _ h => h.2)) (fun _ h => h.1)); replace zaj := Aside0.mk (KeepBut.blk hk (g' := zai) (o := .cells #[.int .i64 0, .slice none 0 0, .string (⟨#[]⟩ : ByteArray), .string (⟨#[]⟩ : ByteArray)] 24 (0, 0)) (M.bk zaj) zan.out (by simp)); replace zap := Aside0.mk (KeepBut.blk hk (g' := zao) (o := .cells #[.int .i64 t146, zaN, .string (⟨#[]⟩ : ByteArray), .string (⟨#[]⟩ : ByteArray)] 24 (0, 0)) (M.bk zap) zav.out (by simp)); replace HB := Aside0.mk (hb); replace HI140 := Aside0.mk (hi); (try clear hb); (try clear hk); (try clear hi)) | ((with_reducible refine gate_callee (f := 34) rfl ?_); refine M.goes (some 30) Tryd.func34 #[.pointer (some ⟨g140, 0, none⟩), .int .i64 40] rfl ?_; (with_reducible refine (scan_Scan_Text.calls g140 t166 t167 t168 t169 40 t170 t171 t172 t173 t174 w _ ?side1 ?side2 A25.out).mono ?_); (case side1 => repeat (first | (with_reducible first | exact HI140.out | apply IsS100.alloc | apply IsS100.drewN | apply IsS100.drew | apply IsS100.set_0 | apply IsS100.set_1 | apply IsS100.set_2 | apply IsS100.set_3 | refine IsS100.far ?_ zam.out _ | refine IsS100.far ?_ zau.out _) | exact HI140.out)); (case side2 => repeat (first | (with_reducible first | exact HB.out | apply below_alloc | apply pw_below_drewN | apply below_drew1 | refine below_set ?_ (IsS100.ge HI140.out) | refine below_set ?_ zal.out | refine below_set ?_ zar.out) | exact HB.out)); rintro e w31 ⟨rfl, hi, hb, hk⟩; refine ⟨_, rfl, ?_⟩; replace zaO := Aside0.mk (Kd.R_mono (Kd.R_keep (IsS100.apart (show IsS100 w _ g140 t166 t167 t168 t169 from by repeat (first | (with_reducible first | exact HI140.out | apply IsS100.alloc | apply IsS100.drewN | apply IsS100.drew | apply IsS100.set_0 | apply IsS100.set_1 | apply IsS100.set_2 | apply IsS100.set_3 | refine IsS100.far ?_ zam.out _ | refine IsS100.far ?_ zau.out _) | exact HI140.out)) (M.ro zaO) (by decide)) hk (fun _ h => h.2)) (fun _ h => h.1)); replace zaj := Aside0.mk (KeepBut.blk hk (g' := zai) (o := .cells #[.int .i64 0, .slice none 0 0, .string (⟨#[]⟩ : ByteArray), .string (⟨#[]⟩ : ByteArray)] 24 (0, 0)) (M.bk zaj) zan.out (by simp)); replace zap := Aside0.mk (KeepBut.blk hk (g' := zao) (o := .cells #[.int .i64 t146, zaN, .string (⟨#[]⟩ : ByteArray), .string (⟨#[]⟩ : ByteArray)] 24 (0, 0)) (M.bk zap) zav.out (by simp)); replace HB := Aside0.mk (hb); replace HI140 := Aside0.mk (hi); (try clear hb); (try clear hk); (try clear hi); have zaP := zat.out; have zaQ := zas.out; have zaR := zav.out; have zaS := zau.out; have zaT : w31.cell? ⟨zao, 0, none⟩ = some (.int .i64 t146) := (blk_cell zap.out 0).trans rfl; have zaU : w31.cell? ⟨zao, 1, none⟩ = some (zaN) := (blk_cell zap.out 1).trans rfl; have zaV : w31.cell? ⟨zao, 2, none⟩ = some (.string (⟨#[]⟩ : ByteArray)) := (blk_cell zap.out 2).trans rfl; have zaW : w31.cell? ⟨zao, 3, none⟩ = some (.string (⟨#[]⟩ : ByteArray)) := (blk_cell zap.out 3).trans rfl; have zaX := blk_frozen zap.out 0; have zaY := blk_frozen zap.out 1; have zaZ := blk_frozen zap.out 2; have za0 := blk_frozen zap.out 3) | ((with_reducible refine gate_callee (f := 35) rfl ?_); refine M.goes (some 34) Tryd.func35 #[.pointer (some ⟨g140, 0, none⟩)] rfl ?_; (with_reducible refine (scan_Scan_End.calls g140 t171 t172 t173 t174 t175 t176 t177 t178 t179 w _ ?side1 ?side2 A26.out).mono ?_); (case side1 => repeat (first | (with_reducible first | exact HI140.out | apply IsS100.alloc | apply IsS100.drewN | apply IsS100.drew | apply IsS100.set_0 | apply IsS100.set_1 | apply IsS100.set_2 | apply IsS100.set_3 | refine IsS100.far ?_ zam.out _ | refine IsS100.far ?_ zau.out _) | exact HI140.out)); (case side2 => repeat (first | (with_reducible first | exact HB.out | apply below_alloc | apply pw_below_drewN | apply below_drew1 | refine below_set ?_ (IsS100.ge HI140.out) | refine below_set ?_ zal.out | refine below_set ?_ zar.out) | exact HB.out)); rintro e w35 ⟨rfl, hi, hb, hk⟩; refine ⟨_, rfl, ?_⟩; replace zaO := Aside0.mk (Kd.R_mono (Kd.R_keep (IsS100.apart (show IsS100 w _ g140 t171 t172 t173 t174 from by repeat (first | (with_reducible first | exact HI140.out | apply IsS100.alloc | apply IsS100.drewN | apply IsS100.drew | apply IsS100.set_0 | apply IsS100.set_1 | apply IsS100.set_2 | apply IsS100.set_3 | refine IsS100.far ?_ zam.out _ | refine IsS100.far ?_ zau.out _) | exact HI140.out)) (by (with_reducible repeat (first | apply Kd.R_alloc | apply Kd.R_drewN | apply Kd.R_drew)); exact (Kd.R_mono (Kd.R_far (p := ⟨zao, 3, none⟩) (Kd.R_far (p := ⟨zao, 2, none⟩) (Kd.R_types zaO.out zap.out (by decide)) (fun _ hk => hk.2) (.string t165)) (fun _ hk => hk.2) (.string t170)) (fun _ h_ => h_.1))) (by decide)) hk (fun _ h => h.2)) (fun _ h => h.1)); replace zaj := Aside0.mk (KeepBut.blk hk (g' := zai) (o := .cells #[.int .i64 0, .slice none 0 0, .string (⟨#[]⟩ : ByteArray), .string (⟨#[]⟩ : ByteArray)] 24 (0, 0)) (by refine M.fr ?_ zas; refine M.fr ?_ zas; exact M.bk zaj) zan.out (by simp)); replace zap := Aside0.mk (KeepBut.blk hk (g' := zao) (o := .cells #[.int .i64 t146, zaN, .string t165, .string t170] 24 (0, 0)) (by refine M.fp (cs := #[.int .i64 t146, zaN, .string t165, .string (⟨#[]⟩ : ByteArray)]) ?_ 3; refine M.fp (cs := #[.int .i64 t146, zaN, .string (⟨#[]⟩ : ByteArray), .string (⟨#[]⟩ : ByteArray)]) ?_ 2; exact M.bk zap) zav.out (by simp)); replace HB := Aside0.mk (hb); replace HI140 := Aside0.mk (hi); (try clear hb); (try clear hk); (try clear hi); have za1 : w35.cell? ⟨zao, 0, none⟩ = some (.int .i64 t146) := (blk_cell zap.out 0).trans rfl; have za2 : w35.cell? ⟨zao, 1, none⟩ = some (zaN) := (blk_cell zap.out 1).trans rfl; have za3 : w35.cell? ⟨zao, 2, none⟩ = some (.string t165) := (blk_cell zap.out 2).trans rfl; have za4 : w35.cell? ⟨zao, 3, none⟩ = some (.string t170) := (blk_cell zap.out 3).trans rfl; have za5 := blk_frozen zap.out 0; have za6 := blk_frozen zap.out 1; have za7 := blk_frozen zap.out 2; have za8 := blk_frozen zap.out 3; obtain ⟨Ao37, co37, eo37⟩ := Kd.R_slice zaO.out; subst eo37) | (go_at_call 18; (with_reducible refine (commit_Check.calls t146 _ _ zaM t165 t170 t180 _ ?side1 ?side2 A28.out).mono ?_); (case side1 => repeat (first | exact (Kd.R_reads' zaO.out).2.2 | (with_reducible refine Kd.C_alloc ?_ _) | (with_reducible refine Kd.C_drewN ?_ _) | (with_reducible refine Kd.C_drew ?_))); (case side2 => exact (Kd.R_reads' zaO.out).2.1); rintro e w38 ⟨rfl, hb⟩; replace zaO := M.roB zaO hb; replace zaj := M.bkB zaj hb; replace zap := M.bkB zap hb; replace HB := Aside0.mk (below_step (by repeat (first | (with_reducible first | exact HB.out | apply below_alloc | apply pw_below_drewN | apply below_drew1 | refine below_set ?_ (IsS100.ge HI140.out) | refine below_set ?_ zal.out | refine below_set ?_ zar.out) | exact HB.out)) hb); replace HI140 := Aside0.mk (IsS100.below (by repeat (first | (with_reducible first | exact HI140.out | apply IsS100.alloc | apply IsS100.drewN | apply IsS100.drew | apply IsS100.set_0 | apply IsS100.set_1 | apply IsS100.set_2 | apply IsS100.set_3 | refine IsS100.far ?_ zam.out _ | refine IsS100.far ?_ zau.out _) | exact HI140.out)) hb); (try clear hb); (try clear hb2); (try clear hk); (try clear hi); have za9 : w38.cell? ⟨zao, 0, none⟩ = some (.int .i64 t146) := (blk_cell zap.out 0).trans rfl; have zba : w38.cell? ⟨zao, 1, none⟩ = some (.slice Ao37 zaM.length co37) := (blk_cell zap.out 1).trans rfl; have zbb : w38.cell? ⟨zao, 2, none⟩ = some (.string t165) := (blk_cell zap.out 2).trans rfl; have zbc : w38.cell? ⟨zao, 3, none⟩ = some (.string t170) := (blk_cell zap.out 3).trans rfl; have zbd := blk_frozen zap.out 0; have zbe := blk_frozen zap.out 1; have zbf := blk_frozen zap.out 2; have zbg := blk_frozen zap.out 3; have zbh := zan.out; have zbi := zam.out; have zbj : w38.cell? ⟨zai, 0, none⟩ = some (.int .i64 0) := (blk_cell zaj.out 0).trans rfl; have zbk : w38.cell? ⟨zai, 1, none⟩ = some (.slice none 0 0) := (blk_cell zaj.out 1).trans rfl; have zbl : w38.cell? ⟨zai, 2, none⟩ = some (.string (⟨#[]⟩ : ByteArray)) := (blk_cell zaj.out 2).trans rfl; have zbm : w38.cell? ⟨zai, 3, none⟩ = some (.string (⟨#[]⟩ : ByteArray)) := (blk_cell zaj.out 3).trans rfl; have zbn := blk_frozen zaj.out 0; have zbo := blk_frozen zaj.out 1; have zbp := blk_frozen zaj.out 2; have zbq := blk_frozen zaj.out 3))
       refine bodyPost_ret (results_ct rfl _ _ zai 24 #[.int .i64 t146, .slice Ao37 zaM.length co37, .string t165, .string t170] (0, 0) _ rfl (by refine M.fp (cs := #[.int .i64 t146, .slice Ao37 zaM.length co37, .string t165, .string (⟨#[]⟩ : ByteArray)]) ?_ 3; refine M.fp (cs := #[.int .i64 t146, .slice Ao37 zaM.length co37, .string (⟨#[]⟩ : ByteArray), .string (⟨#[]⟩ : ByteArray)]) ?_ 2; refine M.fp (cs := #[.int .i64 t146, .slice none 0 0, .string (⟨#[]⟩ : ByteArray), .string (⟨#[]⟩ : ByteArray)]) ?_ 1; refine M.fp (cs := #[.int .i64 0, .slice none 0 0, .string (⟨#[]⟩ : ByteArray), .string (⟨#[]⟩ : ByteArray)]) ?_ 0; exact M.bk zaj) Tryd.underlying24 rfl (by kernel_rfl)) rfl ?_
       exact ⟨_, M.eqe, by (with_reducible repeat (first | apply Kd.R_alloc | apply Kd.R_drewN | apply Kd.R_drew)); exact Kd.R_mono (Kd.R_far (p := ⟨zai, 3, none⟩) (Kd.R_far (p := ⟨zai, 2, none⟩) (Kd.R_far (p := ⟨zai, 1, none⟩) (Kd.R_far (p := ⟨zai, 0, none⟩) (Kd.R_types zaO.out zaj.out (by decide)) (fun _ hk => hk.2) (.int .i64 t146)) (fun _ hk => hk.2) (.slice Ao37 zaM.length co37)) (fun _ hk => hk.2) (.string t165)) (fun _ hk => hk.2) (.string t170)) (fun _ hk => trivial), by repeat (first | (with_reducible first | exact HB.out | apply below_alloc | apply pw_below_drewN | apply below_drew1 | refine below_set ?_ (IsS100.ge HI140.out) | refine below_set ?_ zal.out | refine below_set ?_ zar.out) | exact HB.out)⟩
      ·rw [if_neg c29] at H
       have c29b0 : (t180 == 0) = false := beq_eq_false_iff_ne.mpr c29
       have c29b1 : (t180 != 0) = true := bne_iff_ne.mpr c29
       simp only [Option.some.injEq, Prod.mk.injEq] at H
       obtain ⟨rfl, rfl, rfl, rfl, rfl⟩ := H
       go_wp2_with (first | ((with_reducible refine gate_callee (f := 33) rfl ?_); refine M.goes (some 28) Tryd.func33 #[.pointer (some ⟨g140, 0, none⟩), .int .i64 32] rfl ?_; (with_reducible refine (scan_Scan_Fix.calls g140 zaI zaJ zaK zaL 32 t165 t166 t167 t168 t169 w _ ?side1 ?side2 A24.out).mono ?_); (case side1 => repeat (first | (with_reducible first | exact HI140.out | apply IsS100.alloc | apply IsS100.drewN | apply IsS100.drew | apply IsS100.set_0 | apply IsS100.set_1 | apply IsS100.set_2 | apply IsS100.set_3 | refine IsS100.far ?_ zam.out _ | refine IsS100.far ?_ zau.out _) | exact HI140.out)); (case side2 => repeat (first | (with_reducible first | exact HB.out | apply below_alloc | apply pw_below_drewN | apply below_drew1 | refine below_set ?_ (IsS100.ge HI140.out) | refine below_set ?_ zal.out | refine below_set ?_ zar.out) | exact HB.out)); rintro e w42 ⟨rfl, hi, hb, hk⟩; refine ⟨_, rfl, ?_⟩; replace zaO := Aside0.mk (Kd.R_mono (Kd.R_keep (IsS100.apart (show IsS100 w _ g140 zaI zaJ zaK zaL from by repeat (first | (with_reducible first | exact HI140.out | apply IsS100.alloc | apply IsS100.drewN | apply IsS100.drew | apply IsS100.set_0 | apply IsS100.set_1 | apply IsS100.set_2 | apply IsS100.set_3 | refine IsS100.far ?_ zam.out _ | refine IsS100.far ?_ zau.out _) | exact HI140.out)) (M.ro zaO) (by decide)) hk (fun _ h => h.2)) (fun _ h => h.1)); replace zaj := Aside0.mk (KeepBut.blk hk (g' := zai) (o := .cells #[.int .i64 0, .slice none 0 0, .string (⟨#[]⟩ : ByteArray), .string (⟨#[]⟩ : ByteArray)] 24 (0, 0)) (M.bk zaj) zan.out (by simp)); replace zap := Aside0.mk (KeepBut.blk hk (g' := zao) (o := .cells #[.int .i64 t146, zaN, .string (⟨#[]⟩ : ByteArray), .string (⟨#[]⟩ : ByteArray)] 24 (0, 0)) (M.bk zap) zav.out (by simp)); replace HB := Aside0.mk (hb); replace HI140 := Aside0.mk (hi); (try clear hb); (try clear hk); (try clear hi)) | ((with_reducible refine gate_callee (f := 34) rfl ?_); refine M.goes (some 30) Tryd.func34 #[.pointer (some ⟨g140, 0, none⟩), .int .i64 40] rfl ?_; (with_reducible refine (scan_Scan_Text.calls g140 t166 t167 t168 t169 40 t170 t171 t172 t173 t174 w _ ?side1 ?side2 A25.out).mono ?_); (case side1 => repeat (first | (with_reducible first | exact HI140.out | apply IsS100.alloc | apply IsS100.drewN | apply IsS100.drew | apply IsS100.set_0 | apply IsS100.set_1 | apply IsS100.set_2 | apply IsS100.set_3 | refine IsS100.far ?_ zam.out _ | refine IsS100.far ?_ zau.out _) | exact HI140.out)); (case side2 => repeat (first | (with_reducible first | exact HB.out | apply below_alloc | apply pw_below_drewN | apply below_drew1 | refine below_set ?_ (IsS100.ge HI140.out) | refine below_set ?_ zal.out | refine below_set ?_ zar.out) | exact HB.out)); rintro e w43 ⟨rfl, hi, hb, hk⟩; refine ⟨_, rfl, ?_⟩; replace zaO := Aside0.mk (Kd.R_mono (Kd.R_keep (IsS100.apart (show IsS100 w _ g140 t166 t167 t168 t169 from by repeat (first | (with_reducible first | exact HI140.out | apply IsS100.alloc | apply IsS100.drewN | apply IsS100.drew | apply IsS100.set_0 | apply IsS100.set_1 | apply IsS100.set_2 | apply IsS100.set_3 | refine IsS100.far ?_ zam.out _ | refine IsS100.far ?_ zau.out _) | exact HI140.out)) (M.ro zaO) (by decide)) hk (fun _ h => h.2)) (fun _ h => h.1)); replace zaj := Aside0.mk (KeepBut.blk hk (g' := zai) (o := .cells #[.int .i64 0, .slice none 0 0, .string (⟨#[]⟩ : ByteArray), .string (⟨#[]⟩ : ByteArray)] 24 (0, 0)) (M.bk zaj) zan.out (by simp)); replace zap := Aside0.mk (KeepBut.blk hk (g' := zao) (o := .cells #[.int .i64 t146, zaN, .string (⟨#[]⟩ : ByteArray), .string (⟨#[]⟩ : ByteArray)] 24 (0, 0)) (M.bk zap) zav.out (by simp)); replace HB := Aside0.mk (hb); replace HI140 := Aside0.mk (hi); (try clear hb); (try clear hk); (try clear hi); have zbr := zat.out; have zbs := zas.out; have zbt := zav.out; have zbu := zau.out; have zbv : w43.cell? ⟨zao, 0, none⟩ = some (.int .i64 t146) := (blk_cell zap.out 0).trans rfl; have zbw : w43.cell? ⟨zao, 1, none⟩ = some (zaN) := (blk_cell zap.out 1).trans rfl; have zbx : w43.cell? ⟨zao, 2, none⟩ = some (.string (⟨#[]⟩ : ByteArray)) := (blk_cell zap.out 2).trans rfl; have zby : w43.cell? ⟨zao, 3, none⟩ = some (.string (⟨#[]⟩ : ByteArray)) := (blk_cell zap.out 3).trans rfl; have zbz := blk_frozen zap.out 0; have zbA := blk_frozen zap.out 1; have zbB := blk_frozen zap.out 2; have zbC := blk_frozen zap.out 3) | ((with_reducible refine gate_callee (f := 35) rfl ?_); refine M.goes (some 34) Tryd.func35 #[.pointer (some ⟨g140, 0, none⟩)] rfl ?_; (with_reducible refine (scan_Scan_End.calls g140 t171 t172 t173 t174 t175 t176 t177 t178 t179 w _ ?side1 ?side2 A26.out).mono ?_); (case side1 => repeat (first | (with_reducible first | exact HI140.out | apply IsS100.alloc | apply IsS100.drewN | apply IsS100.drew | apply IsS100.set_0 | apply IsS100.set_1 | apply IsS100.set_2 | apply IsS100.set_3 | refine IsS100.far ?_ zam.out _ | refine IsS100.far ?_ zau.out _) | exact HI140.out)); (case side2 => repeat (first | (with_reducible first | exact HB.out | apply below_alloc | apply pw_below_drewN | apply below_drew1 | refine below_set ?_ (IsS100.ge HI140.out) | refine below_set ?_ zal.out | refine below_set ?_ zar.out) | exact HB.out)); rintro e w47 ⟨rfl, hi, hb, hk⟩; refine ⟨_, rfl, ?_⟩; replace zaO := Aside0.mk (Kd.R_mono (Kd.R_keep (IsS100.apart (show IsS100 w _ g140 t171 t172 t173 t174 from by repeat (first | (with_reducible first | exact HI140.out | apply IsS100.alloc | apply IsS100.drewN | apply IsS100.drew | apply IsS100.set_0 | apply IsS100.set_1 | apply IsS100.set_2 | apply IsS100.set_3 | refine IsS100.far ?_ zam.out _ | refine IsS100.far ?_ zau.out _) | exact HI140.out)) (by (with_reducible repeat (first | apply Kd.R_alloc | apply Kd.R_drewN | apply Kd.R_drew)); exact (Kd.R_mono (Kd.R_far (p := ⟨zao, 3, none⟩) (Kd.R_far (p := ⟨zao, 2, none⟩) (Kd.R_types zaO.out zap.out (by decide)) (fun _ hk => hk.2) (.string t165)) (fun _ hk => hk.2) (.string t170)) (fun _ h_ => h_.1))) (by decide)) hk (fun _ h => h.2)) (fun _ h => h.1)); replace zaj := Aside0.mk (KeepBut.blk hk (g' := zai) (o := .cells #[.int .i64 0, .slice none 0 0, .string (⟨#[]⟩ : ByteArray), .string (⟨#[]⟩ : ByteArray)] 24 (0, 0)) (by refine M.fr ?_ zas; refine M.fr ?_ zas; exact M.bk zaj) zan.out (by simp)); replace zap := Aside0.mk (KeepBut.blk hk (g' := zao) (o := .cells #[.int .i64 t146, zaN, .string t165, .string t170] 24 (0, 0)) (by refine M.fp (cs := #[.int .i64 t146, zaN, .string t165, .string (⟨#[]⟩ : ByteArray)]) ?_ 3; refine M.fp (cs := #[.int .i64 t146, zaN, .string (⟨#[]⟩ : ByteArray), .string (⟨#[]⟩ : ByteArray)]) ?_ 2; exact M.bk zap) zav.out (by simp)); replace HB := Aside0.mk (hb); replace HI140 := Aside0.mk (hi); (try clear hb); (try clear hk); (try clear hi); have zbD : w47.cell? ⟨zao, 0, none⟩ = some (.int .i64 t146) := (blk_cell zap.out 0).trans rfl; have zbE : w47.cell? ⟨zao, 1, none⟩ = some (zaN) := (blk_cell zap.out 1).trans rfl; have zbF : w47.cell? ⟨zao, 2, none⟩ = some (.string t165) := (blk_cell zap.out 2).trans rfl; have zbG : w47.cell? ⟨zao, 3, none⟩ = some (.string t170) := (blk_cell zap.out 3).trans rfl; have zbH := blk_frozen zap.out 0; have zbI := blk_frozen zap.out 1; have zbJ := blk_frozen zap.out 2; have zbK := blk_frozen zap.out 3; obtain ⟨Ao49, co49, eo49⟩ := Kd.R_slice zaO.out; subst eo49) | (go_at_call 18; (with_reducible refine (commit_Check.calls t146 _ _ zaM t165 t170 t180 _ ?side1 ?side2 A28.out).mono ?_); (case side1 => repeat (first | exact (Kd.R_reads' zaO.out).2.2 | (with_reducible refine Kd.C_alloc ?_ _) | (with_reducible refine Kd.C_drewN ?_ _) | (with_reducible refine Kd.C_drew ?_))); (case side2 => exact (Kd.R_reads' zaO.out).2.1); rintro e w50 ⟨rfl, hb⟩; replace zaO := M.roB zaO hb; replace zaj := M.bkB zaj hb; replace zap := M.bkB zap hb; replace HB := Aside0.mk (below_step (by repeat (first | (with_reducible first | exact HB.out | apply below_alloc | apply pw_below_drewN | apply below_drew1 | refine below_set ?_ (IsS100.ge HI140.out) | refine below_set ?_ zal.out | refine below_set ?_ zar.out) | exact HB.out)) hb); replace HI140 := Aside0.mk (IsS100.below (by repeat (first | (with_reducible first | exact HI140.out | apply IsS100.alloc | apply IsS100.drewN | apply IsS100.drew | apply IsS100.set_0 | apply IsS100.set_1 | apply IsS100.set_2 | apply IsS100.set_3 | refine IsS100.far ?_ zam.out _ | refine IsS100.far ?_ zau.out _) | exact HI140.out)) hb); (try clear hb); (try clear hb2); (try clear hk); (try clear hi); have zbL := zan.out; have zbM := zam.out; have zbN : w50.cell? ⟨zai, 0, none⟩ = some (.int .i64 0) := (blk_cell zaj.out 0).trans rfl; have zbO : w50.cell? ⟨zai, 1, none⟩ = some (.slice none 0 0) := (blk_cell zaj.out 1).trans rfl; have zbP : w50.cell? ⟨zai, 2, none⟩ = some (.string (⟨#[]⟩ : ByteArray)) := (blk_cell zaj.out 2).trans rfl; have zbQ : w50.cell? ⟨zai, 3, none⟩ = some (.string (⟨#[]⟩ : ByteArray)) := (blk_cell zaj.out 3).trans rfl; have zbR := blk_frozen zaj.out 0; have zbS := blk_frozen zaj.out 1; have zbT := blk_frozen zaj.out 2; have zbU := blk_frozen zaj.out 3))
       refine bodyPost_ret (results_ct rfl _ _ zai 24 #[.int .i64 0, .slice none 0 0, .string (⟨#[]⟩ : ByteArray), .string (⟨#[]⟩ : ByteArray)] (0, 0) _ rfl (by refine M.fp (cs := #[.int .i64 0, .slice none 0 0, .string (⟨#[]⟩ : ByteArray), .string (⟨#[]⟩ : ByteArray)]) ?_ 3; refine M.fp (cs := #[.int .i64 0, .slice none 0 0, .string (⟨#[]⟩ : ByteArray), .string (⟨#[]⟩ : ByteArray)]) ?_ 2; refine M.fp (cs := #[.int .i64 0, .slice none 0 0, .string (⟨#[]⟩ : ByteArray), .string (⟨#[]⟩ : ByteArray)]) ?_ 1; refine M.fp (cs := #[.int .i64 0, .slice none 0 0, .string (⟨#[]⟩ : ByteArray), .string (⟨#[]⟩ : ByteArray)]) ?_ 0; exact M.bk zaj) Tryd.underlying24 rfl (by kernel_rfl)) rfl ?_
       exact ⟨_, M.eqe, M.nl, by repeat (first | (with_reducible first | exact HB.out | apply below_alloc | apply pw_below_drewN | apply below_drew1 | refine below_set ?_ (IsS100.ge HI140.out) | refine below_set ?_ zal.out | refine below_set ?_ zar.out) | exact HB.out)⟩
     ·rw [if_neg c27] at H
      have c27b0 : (t175 == 0) = false := beq_eq_false_iff_ne.mpr c27
      have c27b1 : (t175 != 0) = true := bne_iff_ne.mpr c27
      simp only [Option.some.injEq, Prod.mk.injEq] at H
      obtain ⟨rfl, rfl, rfl, rfl, rfl⟩ := H
      go_wp2_with (first | ((with_reducible refine gate_callee (f := 33) rfl ?_); refine M.goes (some 28) Tryd.func33 #[.pointer (some ⟨g140, 0, none⟩), .int .i64 32] rfl ?_; (with_reducible refine (scan_Scan_Fix.calls g140 zaI zaJ zaK zaL 32 t165 t166 t167 t168 t169 w _ ?side1 ?side2 A24.out).mono ?_); (case side1 => repeat (first | (with_reducible first | exact HI140.out | apply IsS100.alloc | apply IsS100.drewN | apply IsS100.drew | apply IsS100.set_0 | apply IsS100.set_1 | apply IsS100.set_2 | apply IsS100.set_3 | refine IsS100.far ?_ zam.out _ | refine IsS100.far ?_ zau.out _) | exact HI140.out)); (case side2 => repeat (first | (with_reducible first | exact HB.out | apply below_alloc | apply pw_below_drewN | apply below_drew1 | refine below_set ?_ (IsS100.ge HI140.out) | refine below_set ?_ zal.out | refine below_set ?_ zar.out) | exact HB.out)); rintro e w53 ⟨rfl, hi, hb, hk⟩; refine ⟨_, rfl, ?_⟩; replace zaO := Aside0.mk (Kd.R_mono (Kd.R_keep (IsS100.apart (show IsS100 w _ g140 zaI zaJ zaK zaL from by repeat (first | (with_reducible first | exact HI140.out | apply IsS100.alloc | apply IsS100.drewN | apply IsS100.drew | apply IsS100.set_0 | apply IsS100.set_1 | apply IsS100.set_2 | apply IsS100.set_3 | refine IsS100.far ?_ zam.out _ | refine IsS100.far ?_ zau.out _) | exact HI140.out)) (M.ro zaO) (by decide)) hk (fun _ h => h.2)) (fun _ h => h.1)); replace zaj := Aside0.mk (KeepBut.blk hk (g' := zai) (o := .cells #[.int .i64 0, .slice none 0 0, .string (⟨#[]⟩ : ByteArray), .string (⟨#[]⟩ : ByteArray)] 24 (0, 0)) (M.bk zaj) zan.out (by simp)); replace zap := Aside0.mk (KeepBut.blk hk (g' := zao) (o := .cells #[.int .i64 t146, zaN, .string (⟨#[]⟩ : ByteArray), .string (⟨#[]⟩ : ByteArray)] 24 (0, 0)) (M.bk zap) zav.out (by simp)); replace HB := Aside0.mk (hb); replace HI140 := Aside0.mk (hi); (try clear hb); (try clear hk); (try clear hi)) | ((with_reducible refine gate_callee (f := 34) rfl ?_); refine M.goes (some 30) Tryd.func34 #[.pointer (some ⟨g140, 0, none⟩), .int .i64 40] rfl ?_; (with_reducible refine (scan_Scan_Text.calls g140 t166 t167 t168 t169 40 t170 t171 t172 t173 t174 w _ ?side1 ?side2 A25.out).mono ?_); (case side1 => repeat (first | (with_reducible first | exact HI140.out | apply IsS100.alloc | apply IsS100.drewN | apply IsS100.drew | apply IsS100.set_0 | apply IsS100.set_1 | apply IsS100.set_2 | apply IsS100.set_3 | refine IsS100.far ?_ zam.out _ | refine IsS100.far ?_ zau.out _) | exact HI140.out)); (case side2 => repeat (first | (with_reducible first | exact HB.out | apply below_alloc | apply pw_below_drewN | apply below_drew1 | refine below_set ?_ (IsS100.ge HI140.out) | refine below_set ?_ zal.out | refine below_set ?_ zar.out) | exact HB.out)); rintro e w54 ⟨rfl, hi, hb, hk⟩; refine ⟨_, rfl, ?_⟩; replace zaO := Aside0.mk (Kd.R_mono (Kd.R_keep (IsS100.apart (show IsS100 w _ g140 t166 t167 t168 t169 from by repeat (first | (with_reducible first | exact HI140.out | apply IsS100.alloc | apply IsS100.drewN | apply IsS100.drew | apply IsS100.set_0 | apply IsS100.set_1 | apply IsS100.set_2 | apply IsS100.set_3 | refine IsS100.far ?_ zam.out _ | refine IsS100.far ?_ zau.out _) | exact HI140.out)) (M.ro zaO) (by decide)) hk (fun _ h => h.2)) (fun _ h => h.1)); replace zaj := Aside0.mk (KeepBut.blk hk (g' := zai) (o := .cells #[.int .i64 0, .slice none 0 0, .string (⟨#[]⟩ : ByteArray), .string (⟨#[]⟩ : ByteArray)] 24 (0, 0)) (M.bk zaj) zan.out (by simp)); replace zap := Aside0.mk (KeepBut.blk hk (g' := zao) (o := .cells #[.int .i64 t146, zaN, .string (⟨#[]⟩ : ByteArray), .string (⟨#[]⟩ : ByteArray)] 24 (0, 0)) (M.bk zap) zav.out (by simp)); replace HB := Aside0.mk (hb); replace HI140 := Aside0.mk (hi); (try clear hb); (try clear hk); (try clear hi); have zbV := zat.out; have zbW := zas.out; have zbX := zav.out; have zbY := zau.out; have zbZ : w54.cell? ⟨zao, 0, none⟩ = some (.int .i64 t146) := (blk_cell zap.out 0).trans rfl; have zb0 : w54.cell? ⟨zao, 1, none⟩ = some (zaN) := (blk_cell zap.out 1).trans rfl; have zb1 : w54.cell? ⟨zao, 2, none⟩ = some (.string (⟨#[]⟩ : ByteArray)) := (blk_cell zap.out 2).trans rfl; have zb2 : w54.cell? ⟨zao, 3, none⟩ = some (.string (⟨#[]⟩ : ByteArray)) := (blk_cell zap.out 3).trans rfl; have zb3 := blk_frozen zap.out 0; have zb4 := blk_frozen zap.out 1; have zb5 := blk_frozen zap.out 2; have zb6 := blk_frozen zap.out 3) | ((with_reducible refine gate_callee (f := 35) rfl ?_); refine M.goes (some 34) Tryd.func35 #[.pointer (some ⟨g140, 0, none⟩)] rfl ?_; (with_reducible refine (scan_Scan_End.calls g140 t171 t172 t173 t174 t175 t176 t177 t178 t179 w _ ?side1 ?side2 A26.out).mono ?_); (case side1 => repeat (first | (with_reducible first | exact HI140.out | apply IsS100.alloc | apply IsS100.drewN | apply IsS100.drew | apply IsS100.set_0 | apply IsS100.set_1 | apply IsS100.set_2 | apply IsS100.set_3 | refine IsS100.far ?_ zam.out _ | refine IsS100.far ?_ zau.out _) | exact HI140.out)); (case side2 => repeat (first | (with_reducible first | exact HB.out | apply below_alloc | apply pw_below_drewN | apply below_drew1 | refine below_set ?_ (IsS100.ge HI140.out) | refine below_set ?_ zal.out | refine below_set ?_ zar.out) | exact HB.out)); rintro e w58 ⟨rfl, hi, hb, hk⟩; refine ⟨_, rfl, ?_⟩; replace zaO := Aside0.mk (Kd.R_mono (Kd.R_keep (IsS100.apart (show IsS100 w _ g140 t171 t172 t173 t174 from by repeat (first | (with_reducible first | exact HI140.out | apply IsS100.alloc | apply IsS100.drewN | apply IsS100.drew | apply IsS100.set_0 | apply IsS100.set_1 | apply IsS100.set_2 | apply IsS100.set_3 | refine IsS100.far ?_ zam.out _ | refine IsS100.far ?_ zau.out _) | exact HI140.out)) (by (with_reducible repeat (first | apply Kd.R_alloc | apply Kd.R_drewN | apply Kd.R_drew)); exact (Kd.R_mono (Kd.R_far (p := ⟨zao, 3, none⟩) (Kd.R_far (p := ⟨zao, 2, none⟩) (Kd.R_types zaO.out zap.out (by decide)) (fun _ hk => hk.2) (.string t165)) (fun _ hk => hk.2) (.string t170)) (fun _ h_ => h_.1))) (by decide)) hk (fun _ h => h.2)) (fun _ h => h.1)); replace zaj := Aside0.mk (KeepBut.blk hk (g' := zai) (o := .cells #[.int .i64 0, .slice none 0 0, .string (⟨#[]⟩ : ByteArray), .string (⟨#[]⟩ : ByteArray)] 24 (0, 0)) (by refine M.fr ?_ zas; refine M.fr ?_ zas; exact M.bk zaj) zan.out (by simp)); replace zap := Aside0.mk (KeepBut.blk hk (g' := zao) (o := .cells #[.int .i64 t146, zaN, .string t165, .string t170] 24 (0, 0)) (by refine M.fp (cs := #[.int .i64 t146, zaN, .string t165, .string (⟨#[]⟩ : ByteArray)]) ?_ 3; refine M.fp (cs := #[.int .i64 t146, zaN, .string (⟨#[]⟩ : ByteArray), .string (⟨#[]⟩ : ByteArray)]) ?_ 2; exact M.bk zap) zav.out (by simp)); replace HB := Aside0.mk (hb); replace HI140 := Aside0.mk (hi); (try clear hb); (try clear hk); (try clear hi); have zb7 := zan.out; have zb8 := zam.out; have zb9 : w58.cell? ⟨zai, 0, none⟩ = some (.int .i64 0) := (blk_cell zaj.out 0).trans rfl; have zca : w58.cell? ⟨zai, 1, none⟩ = some (.slice none 0 0) := (blk_cell zaj.out 1).trans rfl; have zcb : w58.cell? ⟨zai, 2, none⟩ = some (.string (⟨#[]⟩ : ByteArray)) := (blk_cell zaj.out 2).trans rfl; have zcc : w58.cell? ⟨zai, 3, none⟩ = some (.string (⟨#[]⟩ : ByteArray)) := (blk_cell zaj.out 3).trans rfl; have zcd := blk_frozen zaj.out 0; have zce := blk_frozen zaj.out 1; have zcf := blk_frozen zaj.out 2; have zcg := blk_frozen zaj.out 3))
      refine bodyPost_ret (results_ct rfl _ _ zai 24 #[.int .i64 0, .slice none 0 0, .string (⟨#[]⟩ : ByteArray), .string (⟨#[]⟩ : ByteArray)] (0, 0) _ rfl (by refine M.fp (cs := #[.int .i64 0, .slice none 0 0, .string (⟨#[]⟩ : ByteArray), .string (⟨#[]⟩ : ByteArray)]) ?_ 3; refine M.fp (cs := #[.int .i64 0, .slice none 0 0, .string (⟨#[]⟩ : ByteArray), .string (⟨#[]⟩ : ByteArray)]) ?_ 2; refine M.fp (cs := #[.int .i64 0, .slice none 0 0, .string (⟨#[]⟩ : ByteArray), .string (⟨#[]⟩ : ByteArray)]) ?_ 1; refine M.fp (cs := #[.int .i64 0, .slice none 0 0, .string (⟨#[]⟩ : ByteArray), .string (⟨#[]⟩ : ByteArray)]) ?_ 0; exact M.bk zaj) Tryd.underlying24 rfl (by kernel_rfl)) rfl ?_
      exact ⟨_, M.eqe, M.nl, by repeat (first | (with_reducible first | exact HB.out | apply below_alloc | apply pw_below_drewN | apply below_drew1 | refine below_set ?_ (IsS100.ge HI140.out) | refine below_set ?_ zal.out | refine below_set ?_ zar.out) | exact HB.out)⟩
 ·rw [if_neg c4] at H
  have c4b0 : (t141 == 67) = false := beq_eq_false_iff_ne.mpr c4
  have c4b1 : (t141 != 67) = true := bne_iff_ne.mpr c4
  simp only [Option.some.injEq, Prod.mk.injEq] at H
  obtain ⟨rfl, rfl, rfl, rfl, rfl⟩ := H
  go_enter Tryd.func9, Tryd.ntmps9
  go_wp2_with (first | ((with_reducible refine gate_dst (N := 2) rfl ?_); refine M.bx 2 24 (#[.int .i64 0, .slice none 0 0, .string (⟨#[]⟩ : ByteArray), .string (⟨#[]⟩ : ByteArray)]) ?_; intro zai hg w61 hbox hb; have zaj := Aside0.mk (hbox); have zak := M.upG HB hg; have zal := M.upG HB hg; replace HB := M.upS HB hb; clear hb hbox hg) | ((with_reducible refine gate_callee (f := 30) rfl ?_); refine M.goes (some 7) Tryd.func30 #[.string a0] rfl ?_; (with_reducible refine (scan_New.calls a0 t136 t137 t138 t139 w _ ?side1 A2.out).mono ?_); (case side1 => repeat (first | (with_reducible first | exact HB.out | apply below_alloc | apply pw_below_drewN | apply below_drew1 | refine below_set ?_ zal.out) | exact HB.out)); rintro e w62 ⟨g140, rfl, hi, hb, hb2⟩; refine ⟨_, rfl, ?_⟩; replace HB := Aside0.mk (hb); have HI140 := Aside0.mk (hi); have zam := Aside0.mk (IsS100.ne_blk hi (blk_below (g := zai) (o := .cells #[.int .i64 0, .slice none 0 0, .string (⟨#[]⟩ : ByteArray), .string (⟨#[]⟩ : ByteArray)] 24 (0, 0)) (M.bk zaj) hb2) (by decide)); have zan := Aside0.mk (Ne.symm (IsS100.ne_blk hi (blk_below (g := zai) (o := .cells #[.int .i64 0, .slice none 0 0, .string (⟨#[]⟩ : ByteArray), .string (⟨#[]⟩ : ByteArray)] 24 (0, 0)) (M.bk zaj) hb2) (by decide))); replace zaj := M.bkB zaj hb2; (try clear hb); (try clear hb2); (try clear hi)) | ((with_reducible refine gate_callee (f := 31) rfl ?_); refine M.goes (some 9) Tryd.func31 #[.pointer (some ⟨g140, 0, none⟩)] rfl ?_; (with_reducible refine (scan_Scan_Byte.calls g140 t136 t137 t138 t139 t141 t142 t143 t144 t145 w _ ?side1 ?side2 A3.out).mono ?_); (case side1 => repeat (first | (with_reducible first | exact HI140.out | apply IsS100.alloc | apply IsS100.drewN | apply IsS100.drew | apply IsS100.set_0 | apply IsS100.set_1 | apply IsS100.set_2 | apply IsS100.set_3 | refine IsS100.far ?_ zam.out _) | exact HI140.out)); (case side2 => repeat (first | (with_reducible first | exact HB.out | apply below_alloc | apply pw_below_drewN | apply below_drew1 | refine below_set ?_ (IsS100.ge HI140.out) | refine below_set ?_ zal.out) | exact HB.out)); rintro e w63 ⟨rfl, hi, hb, hk⟩; refine ⟨_, rfl, ?_⟩; replace zaj := Aside0.mk (KeepBut.blk hk (g' := zai) (o := .cells #[.int .i64 0, .slice none 0 0, .string (⟨#[]⟩ : ByteArray), .string (⟨#[]⟩ : ByteArray)] 24 (0, 0)) (M.bk zaj) zan.out (by simp)); replace HB := Aside0.mk (hb); replace HI140 := Aside0.mk (hi); (try clear hb); (try clear hk); (try clear hi); have zch := zan.out; have zci := zam.out; have zcj : w63.cell? ⟨zai, 0, none⟩ = some (.int .i64 0) := (blk_cell zaj.out 0).trans rfl; have zck : w63.cell? ⟨zai, 1, none⟩ = some (.slice none 0 0) := (blk_cell zaj.out 1).trans rfl; have zcl : w63.cell? ⟨zai, 2, none⟩ = some (.string (⟨#[]⟩ : ByteArray)) := (blk_cell zaj.out 2).trans rfl; have zcm : w63.cell? ⟨zai, 3, none⟩ = some (.string (⟨#[]⟩ : ByteArray)) := (blk_cell zaj.out 3).trans rfl; have zcn := blk_frozen zaj.out 0; have zco := blk_frozen zaj.out 1; have zcp := blk_frozen zaj.out 2; have zcq := blk_frozen zaj.out 3))
  refine bodyPost_ret (results_ct rfl _ _ zai 24 #[.int .i64 0, .slice none 0 0, .string (⟨#[]⟩ : ByteArray), .string (⟨#[]⟩ : ByteArray)] (0, 0) _ rfl (by refine M.fp (cs := #[.int .i64 0, .slice none 0 0, .string (⟨#[]⟩ : ByteArray), .string (⟨#[]⟩ : ByteArray)]) ?_ 3; refine M.fp (cs := #[.int .i64 0, .slice none 0 0, .string (⟨#[]⟩ : ByteArray), .string (⟨#[]⟩ : ByteArray)]) ?_ 2; refine M.fp (cs := #[.int .i64 0, .slice none 0 0, .string (⟨#[]⟩ : ByteArray), .string (⟨#[]⟩ : ByteArray)]) ?_ 1; refine M.fp (cs := #[.int .i64 0, .slice none 0 0, .string (⟨#[]⟩ : ByteArray), .string (⟨#[]⟩ : ByteArray)]) ?_ 0; exact M.bk zaj) Tryd.underlying24 rfl (by kernel_rfl)) rfl ?_
  exact ⟨_, M.eqe, M.nl, by repeat (first | (with_reducible first | exact HB.out | apply below_alloc | apply pw_below_drewN | apply below_drew1 | refine below_set ?_ (IsS100.ge HI140.out) | refine below_set ?_ zal.out) | exact HB.out)⟩
def commit_Take.no : Int × List ByteArray × ByteArray × ByteArray × Int := (0, [], ⟨#[]⟩, ⟨#[]⟩, 3)
def commit_Take.f (a0 : ByteArray) : Option (Int × List ByteArray × ByteArray × ByteArray × Int) := if a0.size ≤ 9223372036854775806 then some (if M.cgood a0 then ((M.cN a0).1, (M.cP a0).1, (M.cG a0).1, (M.cT a0).1, 0) else commit_Take.no) else none
def commit_Take.fin (s : ByteArray) (n : Int) (ps : List ByteArray) (p er : Int) : Int × List ByteArray × ByteArray × ByteArray × Int :=
  if M.xend s (M.xtext s (M.xfix s p er 32).2.1 (M.xfix s p er 32).2.2 40).2.1 (M.xtext s (M.xfix s p er 32).2.1 (M.xfix s p er 32).2.2 40).2.2 = 0 ∧ M.isC n ps (M.xfix s p er 32).1 (M.xtext s (M.xfix s p er 32).2.1 (M.xfix s p er 32).2.2 40).1 then (n, ps, (M.xfix s p er 32).1, (M.xtext s (M.xfix s p er 32).2.1 (M.xfix s p er 32).2.2 40).1, 0) else commit_Take.no
theorem commit_Take.loop (s : ByteArray) (n m : Int) (hm : m ≤ 2) (d : Nat) : ∀ (i : Nat) (p er : Int) (ps : List ByteArray), (i : Int) + d = m → M.sok s p → ps.length ≤ 100 + i →
    commit_Take_p.l0 (d + 1) m (i : Int) s p er true n ps ⟨#[]⟩ ⟨#[]⟩ = some (commit_Take.fin s n (ps ++ (M.cfixes s d p er).1) (M.cfixes s d p er).2.1 (M.cfixes s d p er).2.2) := by
 induction d with
 | zero =>
  intro i p er ps hi hs hl
  have hk := M.xfix_ok s er 32 hs
  rw [commit_Take_p.l0, if_neg (by omega)]
  unfold scan_Scan_Fix.f scan_Scan_take.f
  rw [if_pos rfl, if_pos ⟨hs, by decide, by decide⟩, Option.bind_some]
  simp only
  unfold scan_Scan_Text.f
  rw [if_pos rfl, if_pos ⟨hk, by decide⟩, Option.bind_some]
  simp only
  rw [scan_Scan_End.eq, Option.bind_some]
  simp only [M.cfixes, List.append_nil]
  unfold commit_Take.fin commit_Check.f
  by_cases h0 : M.xend s (M.xtext s (M.xfix s p er 32).2.1 (M.xfix s p er 32).2.2 40).2.1 (M.xtext s (M.xfix s p er 32).2.1 (M.xfix s p er 32).2.2 40).2.2 = 0
  ·rw [if_pos h0, Option.bind_some]
   by_cases h1 : M.isC n ps (M.xfix s p er 32).1 (M.xtext s (M.xfix s p er 32).2.1 (M.xfix s p er 32).2.2 40).1
   ·rw [if_pos h1, if_pos rfl, if_pos ⟨h0, h1⟩]
   ·rw [if_neg h1, if_neg (by decide), if_neg (fun z => h1 z.2)]; rfl
  ·rw [if_neg h0, if_neg (fun z => h0 z.1)]; rfl
 | succ d ih =>
  intro i p er ps hi hs hl
  have hk := M.xfix_ok s er 32 hs
  have hi1 : wrap64 ((i : Int) + 1) = ((i + 1 : Nat) : Int) := by rw [M.wrap64_id (by omega) (by omega)]; omega
  rw [commit_Take_p.l0, if_pos (by omega), hi1]
  unfold scan_Scan_Fix.f scan_Scan_take.f
  rw [if_pos rfl, if_pos ⟨hs, by decide, by decide⟩, Option.bind_some]
  simp only
  rw [if_pos (by omega), ih (i + 1) _ _ _ (by omega) hk (by simp; omega)]
  simp only [M.cfixes, List.append_assoc, List.singleton_append]
theorem commit_Take.ev (s : ByteArray) (r : Int × List ByteArray × ByteArray × ByteArray × Int) (h : commit_Take.f s = some r) : ∃ k, commit_Take_p.f k s = some r := by
 unfold commit_Take.f at h
 split at h
 case isFalse => cases h
 case isTrue hz =>
  have h0 : M.sok s 0 := M.sok0 (by omega)
  have hb := M.xbyte_ok s 0 h0
  have hN := M.cN_ok (s := s) (by omega)
  have hM := M.cM_range (s := s) (by omega)
  have hMo := M.cM_ok (s := s) (by omega)
  refine ⟨(M.cM s).1.toNat + 1, ?_⟩
  rw [← h]
  unfold commit_Take_p.f scan_New.f scan_Scan_Byte.f
  simp only [Option.bind_some]
  simp only [if_true, if_pos h0, Option.bind_some]
  by_cases c1 : (M.xbyte s 0 0).1 = 67
  ·rw [if_pos c1, scan_Scan_Num.eq _ _ _ _ hb (by decide), Option.bind_some]
   simp only
   rw [show M.xnum s (M.xbyte s 0 0).2.1 (M.xbyte s 0 0).2.2 4294967295 = M.cN s from rfl, scan_Scan_Num.eq _ _ _ _ hN (by decide), Option.bind_some]
   simp only
   rw [show M.xnum s (M.cN s).2.1 (M.cN s).2.2 2 = M.cM s from rfl]
   have := commit_Take.loop s (M.cN s).1 (M.cM s).1 hM.2 (M.cM s).1.toNat 0 (M.cM s).2.1 (M.cM s).2.2 [] (by omega) hMo (by simp)
   rw [List.nil_append, show ((0 : Nat) : Int) = 0 from rfl] at this
   rw [this]
   congr 1
   show commit_Take.fin s (M.cN s).1 (M.cP s).1 (M.cP s).2.1 (M.cP s).2.2 = _
   unfold commit_Take.fin
   by_cases c2 : M.cgood s
   ·rw [if_pos c2]
    exact if_pos c2.2
   ·rw [if_neg c2]
    exact if_neg (fun z => c2 ⟨c1, z⟩)
  ·rw [if_neg c1, if_neg (fun z => c1 z.1)]; rfl
theorem commit_Take.calls (a0 : ByteArray) (r1 : Int) (r2 : List ByteArray) (r3 : ByteArray) (r4 : ByteArray) (r5 : Int) (w : World) (h : commit_Take.f a0 = some (r1, r2, r3, r4, r5)) :
    Calls Tryd.prog 9 #[.string a0] w fun e w' => ∃ v1_ : Value, e = .returned (.tuple #[.agg #[.int .i64 r1, v1_, .string r3, .string r4], .int .i64 r5]) ∧ Kd.R Kd.string 9 w' w.heap.size (fun _ => True) v1_ r2 ∧ Below w.heap.size w w' := by
 obtain ⟨k, hk⟩ := commit_Take.ev _ _ h
 exact commit_Take_p.calls (k := k) (w := w) (h := hk)
def commit_Is.f (a0 : ByteArray) : Option (Bool) := if a0.toList = ([] : List UInt8) then (some false) else (if 0 < (a0.size : Int) then (some ((bt a0 0) == 67)) else (none))
set_option maxHeartbeats 8000000 in
set_option maxRecDepth 100000 in
theorem commit_Is.calls (a0 : ByteArray) (r : Bool) (w : World) (h : commit_Is.f a0 = some r) :
    Calls Tryd.prog 12 #[.string a0] w fun e w' => e = .returned (.bool r) ∧ Drawn0 w w' := by
 have H : (if a0.toList = ([] : List UInt8) then (some false) else (if 0 < (a0.size : Int) then (some ((bt a0 0) == 67)) else (none))) = some r := h
 clear h
 by_cases c2 : a0.toList = ([] : List UInt8)
 ·rw [if_pos c2] at H
  have c2b0 : (a0.toList == ([] : List UInt8)) = true := beq_iff_eq.mpr c2
  have c2b1 : (a0.toList != ([] : List UInt8)) = false := bne_eq_false_iff_eq.mpr c2
  clear c2
  obtain rfl := Option.some.inj H
  go_enter Tryd.func12, Tryd.ntmps12
  go_wp2
  go_ret
  exact ⟨by first | rfl | (simp; done) | (simp [*]; done), by repeat (first | exact Drawn0.refl _ | apply Drawn0.step)⟩
 ·rw [if_neg c2] at H
  have c2b0 : (a0.toList == ([] : List UInt8)) = false := beq_eq_false_iff_ne.mpr c2
  have c2b1 : (a0.toList != ([] : List UInt8)) = true := bne_iff_ne.mpr c2
  by_cases c3 : 0 < (a0.size : Int)
  ·rw [if_pos c3] at H
   have c3b0 := decide_eq_true c3
   have c3b1 : decide (0 < a0.size) = true := decide_eq_true (by omega)
   clear c3
   obtain rfl := Option.some.inj H
   have p4 : 0 ≤ (0 : Int) := (by omega)
   have q4 : 0 < a0.size := (by have : (0 : Int) < (a0.size : Int) := M.dt; omega)
   have hx4 : ∀ h : 0 < a0.size, ((a0[0]'h).toNat : Int) = bt a0 0 := bt_at a0 0
   clear p4
   have qi4 : (0 < (a0.size : Int)) = True := eq_true (M.dt)
   replace q4 := eq_true q4
   go_enter Tryd.func12, Tryd.ntmps12
   go_wp2
   go_ret
   exact ⟨by first | rfl | (simp; done) | (simp [*]; done), by repeat (first | exact Drawn0.refl _ | apply Drawn0.step)⟩
  ·exact M.nf c3 H
theorem shelf_Shelf_there.law : Maps.Keyed Tryd.prog 9 := Maps.string_keyed Tryd.underlying9
theorem shelf_Shelf_there.zero_ (w : World) : (zeroValue 3).run Tryd.prog w = .ok (.int .i64 0) w := by kernel_rfl
set_option maxRecDepth 100000 in
theorem shelf_Shelf_there.calls (base g B : Nat) (D : DataW Unit) (vt vn : Value) (ts : List ByteArray) (a b : ByteArray) (w : World) (hS : M.shelf Tryd.prog base w g B D vt vn ts a b) :
    Calls Tryd.prog 44 #[.pointer (some ⟨g, 0, none⟩)] w fun e w' => e = .returned (.bool true) ∧ w = w' := by
 have c0 : w.cell? ⟨g, 0, none⟩ = some (.map (some B)) := M.blk_cell hS.blk 0 _ rfl
 have hne : ∀ W : World, (binOp .neq 78 (.map (some B)) (.map none)).run Tryd.prog W = .ok (.bool true) W := fun W => run_neq_map_nil (P := Tryd.prog) (w := W) 78 9 3 (some B) Tryd.underlying78
 clear hS
 go_enter Tryd.func44, Tryd.ntmps44
 go_wp2
 go_ret
 exact ⟨rfl, rfl⟩
set_option maxHeartbeats 8000000 in
set_option maxRecDepth 100000 in
theorem shelf_Shelf_Get.none_ (base g B : Nat) (D : DataW Unit) (vt vn : Value) (ts : List ByteArray) (a b name : ByteArray) (w : World) (hS : M.shelf Tryd.prog base w g B D vt vn ts a b) (hz : name.size ≤ 9223372036854775807) (hn : M.idx (ts.map M.shaSum) name.data.toList = none) :
    Calls Tryd.prog 45 #[.pointer (some ⟨g, 0, none⟩), .string name] w fun e w' => e = .returned (.tuple #[.string ByteArray.empty, .bool false]) ∧ w = w' := by
 have c0 : w.cell? ⟨g, 0, none⟩ = some (.map (some B)) := M.blk_cell hS.blk 0 _ rfl
 have hKEY := Go.WideMaps.keyOf_string_mk Tryd.underlying9 (show name.size ≤ maxLen from by unfold maxLen; omega)
 have hown := hS.map
 have h1 := (hS.says name.data.toList).1
 have h2 := (hS.says name.data.toList).2
 rw [hn] at h1 h2
 have HS := Aside0.mk hS
 clear hS
 go_enter Tryd.func45, Tryd.ntmps45
 go_wp2_with (first | (go_at_call 44; (with_reducible refine (shelf_Shelf_there.calls base g B D vt vn ts a b _ HS.out).mono ?_); rintro e w1 ⟨rfl, rfl⟩) | (at_lookup; refine wpList_lookup_own_ok_int _ rfl _ _ 78 rfl 9 3 .i64 shelf_Shelf_there.law Tryd.underlying78 Tryd.underlying3 (shelf_Shelf_there.zero_ _) B ts.length D rfl hown _ _ rfl hKEY ?_; intro c hat hwc))
 exact bodyPost_ret (v := .tuple #[.string ByteArray.empty, .bool false]) (by simp [results, Tryd.results45, go_sem]; rfl) rfl ⟨rfl, rfl⟩
set_option maxHeartbeats 8000000 in
set_option maxRecDepth 100000 in
theorem shelf_Shelf_Get.some_ (base g B : Nat) (D : DataW Unit) (vt vn : Value) (ts : List ByteArray) (a b name : ByteArray) (i : Nat) (w : World) (hS : M.shelf Tryd.prog base w g B D vt vn ts a b) (hz : name.size ≤ 9223372036854775807) (hn : M.idx (ts.map M.shaSum) name.data.toList = some i) :
    Calls Tryd.prog 45 #[.pointer (some ⟨g, 0, none⟩), .string name] w fun e w' => e = .returned (.tuple #[.string (ts.getD i ByteArray.empty), .bool true]) ∧ w = w' := by
 have hi : i < ts.length := by have := (M.idx_lt hn).1; simpa using this
 obtain ⟨gt, cap, rfl, _, _⟩ := hS.rt.form (by omega)
 have c0 : w.cell? ⟨g, 0, none⟩ = some (.map (some B)) := M.blk_cell hS.blk 0 _ rfl
 have c1 : w.cell? ⟨g, 1, none⟩ = some (.slice (some ⟨gt, 0, none⟩) ts.length cap) := M.blk_cell hS.blk 1 _ rfl
 have ci := hS.rt.cells (g := gt) rfl i (.string (ts.getD i ByteArray.empty)) (by simp [List.getD, hi])
 rw [add_plain] at ci
 have hKEY := Go.WideMaps.keyOf_string_mk Tryd.underlying9 (show name.size ≤ maxLen from by unfold maxLen; omega)
 have hown := hS.map
 have h1 := (hS.says name.data.toList).1
 have h2 := (hS.says name.data.toList).2
 rw [hn] at h1 h2
 have HS := Aside0.mk hS
 have g0 : (0 : Int) ≤ (i : Int) := by omega
 have g1 : (i : Int) < (ts.length : Int) := by omega
 clear hS
 generalize ts.getD i ByteArray.empty = x at ci ⊢
 go_enter Tryd.func45, Tryd.ntmps45
 go_wp2_with (first | (go_at_call 44; (with_reducible refine (shelf_Shelf_there.calls base g B D _ vn ts a b _ HS.out).mono ?_); rintro e w1 ⟨rfl, rfl⟩) | (at_lookup; refine wpList_lookup_own_ok_int _ rfl _ _ 78 rfl 9 3 .i64 shelf_Shelf_there.law Tryd.underlying78 Tryd.underlying3 (shelf_Shelf_there.zero_ _) B ts.length D rfl hown _ _ rfl hKEY ?_; intro c hat hwc; obtain rfl : c = (i : Int) := by (rw [h2] at hat; simpa using hat.symm)))
 exact bodyPost_ret (v := .tuple #[.string x, .bool true]) (by simp [results, Tryd.results45, go_sem]) rfl ⟨rfl, rfl⟩
theorem shelf_Shelf_Get.all_ (base g : Nat) (F : Nat → Prop) (s : M.SS) (name : ByteArray) (w : World) (hS : M.Sh Tryd.prog base w g F s) (hz : name.size ≤ 9223372036854775807) :
    Calls Tryd.prog 45 #[.pointer (some ⟨g, 0, none⟩), .string name] w fun e w' => e = .returned (.tuple #[.string (s.get name).1, .bool (s.get name).2]) ∧ w = w' := by
 obtain ⟨B, D, vt, vn, hs, hF, hl⟩ := hS
 unfold M.SS.get
 cases hi : M.idx (s.ts.map M.shaSum) name.data.toList with
 | none => exact shelf_Shelf_Get.none_ base g B D vt vn s.ts s.a s.b name w hs hz hi
 | some i => exact shelf_Shelf_Get.some_ base g B D vt vn s.ts s.a s.b name i w hs hz hi
theorem shelf_Shelf_Get.any (base g : Nat) (F : Nat → Prop) (s : M.SS) (name : ByteArray) (w : World) (hS : M.Sh Tryd.prog base w g F s) (hz : name.size ≤ 1000000000000) :
    Calls Tryd.prog 45 #[.pointer (some ⟨g, 0, none⟩), .string name] w fun e w' => e = .returned (.tuple #[.string (s.get name).1, .bool (s.get name).2]) ∧ w = w' := shelf_Shelf_Get.all_ base g F s name w hS (by omega)
theorem commit_Load.size_ : (Tryd.prog.info? 24).map (·.size) = some 4 := by kernel_rfl
def commit_Load.zero_ : List Value := [.int .i64 0, .slice none 0 0, .string ⟨#[]⟩, .string ⟨#[]⟩]
theorem commit_Load.isy (x : ByteArray) (b : Bool) (h : commit_Is.f x = some b) (w : World) : Calls Tryd.prog 12 #[.string x] w fun e w' => e = .returned (.bool b) ∧ Drawn0 w w' := commit_Is.calls x b w h
theorem commit_Load.get_ (base g : Nat) (F : Nat → Prop) (s : M.SS) (name x : ByteArray) (ok : Bool) (w : World) (hS : M.Sh Tryd.prog base w g F s) (hz : name.size ≤ 1000000000000) (h : s.get name = (x, ok)) :
    Calls Tryd.prog 45 #[.pointer (some ⟨g, 0, none⟩), .string name] w fun e w' => e = .returned (.tuple #[.string x, .bool ok]) ∧ w = w' := by
 have := shelf_Shelf_Get.any base g F s name w hS hz
 rw [h] at this
 exact this
set_option maxHeartbeats 8000000 in
set_option maxRecDepth 100000 in
theorem commit_Load.bad (base g : Nat) (F : Nat → Prop) (s : M.SS) (name x : ByteArray) (ok : Bool) (w : World) (hS : M.Sh Tryd.prog base w g F s) (hz : name.size ≤ 1000000000000) (hg : s.get name = (x, ok)) (hb : ok = false ∨ commit_Is.f x = some false) :
    Calls Tryd.prog 20 #[.pointer (some ⟨g, 0, none⟩), .string name] w fun e w' => e = .returned (.tuple #[.agg #[.int .i64 0, .slice none 0 0, .string ⟨#[]⟩, .string ⟨#[]⟩], .int .i64 13]) ∧ Below w.heap.size w w' := by
 have HS := Aside0.mk (hS.below (below_alloc (Below.refl w.heap.size w) (.cells #[.int .i64 0, .slice none 0 0, .string ⟨#[]⟩, .string ⟨#[]⟩] 24)))
 have HG := Aside0.mk hg
 have HB := Aside0.mk (below_alloc (Below.refl w.heap.size w) (.cells #[.int .i64 0, .slice none 0 0, .string ⟨#[]⟩, .string ⟨#[]⟩] 24))
 clear hS hg
 cases ok with
 | false =>
  clear hb
  go_enter Tryd.func20, Tryd.ntmps20
  go_wp2_with (first | (go_at_call 45; (with_reducible refine (commit_Load.get_ base g F s name x false _ HS.out hz HG.out).mono ?_); rintro e w1 ⟨rfl, rfl⟩))
  exact bodyPost_ret (v := .tuple #[.agg #[.int .i64 0, .slice none 0 0, .string ⟨#[]⟩, .string ⟨#[]⟩], .int .i64 13]) (by simp [results, Tryd.results20, go_sem]) rfl ⟨rfl, HB.out⟩
 | true =>
  have HI := Aside0.mk (hb.resolve_left (by simp))
  clear hb
  go_enter Tryd.func20, Tryd.ntmps20
  go_wp2_with (first | (go_at_call 45; (with_reducible refine (commit_Load.get_ base g F s name x true _ HS.out hz HG.out).mono ?_); rintro e w1 ⟨rfl, rfl⟩) | (go_at_call 12; (with_reducible refine (commit_Load.isy x false HI.out _).mono ?_); rintro e w2 ⟨rfl, ⟨nd, rfl⟩⟩) | ((with_reducible refine gate_store (t := 24) (p := 4) (v := .tmp 23) rfl ?_); refine M.wp_rec_store rfl 24 _ _ rfl w.heap.size 24 commit_Load.zero_ commit_Load.zero_ rfl rfl (M.rec_drewN (M.rec_new w _ commit_Load.zero_) nd) rfl commit_Load.size_ rfl ?_; intro w4 hA4 hF4 hB4 hz4; have HB4 := Aside0.mk (hB4 _ _ (Nat.le_refl _) (pw_below_drewN HB.out nd)); have HA4 := Aside0.mk hA4; clear hA4 hF4 hB4 hz4))
  exact bodyPost_ret (v := .tuple #[.agg commit_Load.zero_.toArray, .int .i64 13]) (M.results_rec2 Tryd.results20 _ (by rfl) HA4.out Tryd.underlying24 rfl commit_Load.size_) rfl ⟨rfl, HB4.out⟩
set_option maxHeartbeats 8000000 in
set_option maxRecDepth 100000 in
theorem commit_Load.rot (base g : Nat) (F : Nat → Prop) (s : M.SS) (name x : ByteArray) (r1 : Int) (r2 : List ByteArray) (r3 r4 : ByteArray) (r5 : Int) (w : World) (hS : M.Sh Tryd.prog base w g F s) (hz : name.size ≤ 1000000000000) (hg : s.get name = (x, true)) (hb : commit_Is.f x = some true) (ht : commit_Take.f x = some (r1, r2, r3, r4, r5)) (h5 : r5 ≠ 0) :
    Calls Tryd.prog 20 #[.pointer (some ⟨g, 0, none⟩), .string name] w fun e w' => e = .returned (.tuple #[.agg #[.int .i64 0, .slice none 0 0, .string ⟨#[]⟩, .string ⟨#[]⟩], .int .i64 13]) ∧ Below w.heap.size w w' := by
 have HS := Aside0.mk (hS.below (below_alloc (Below.refl w.heap.size w) (.cells #[.int .i64 0, .slice none 0 0, .string ⟨#[]⟩, .string ⟨#[]⟩] 24)))
 have HG := Aside0.mk hg
 have HI := Aside0.mk hb
 have HT := Aside0.mk ht
 have hq : (r5 != 0) = true := bne_iff_ne.2 h5
 have HB := Aside0.mk (below_alloc (Below.refl w.heap.size w) (.cells #[.int .i64 0, .slice none 0 0, .string ⟨#[]⟩, .string ⟨#[]⟩] 24))
 clear hS hg hb ht h5
 go_enter Tryd.func20, Tryd.ntmps20
 go_wp2_with (first | (go_at_call 45; (with_reducible refine (commit_Load.get_ base g F s name x true _ HS.out hz HG.out).mono ?_); rintro e w1 ⟨rfl, rfl⟩) | (go_at_call 12; (with_reducible refine (commit_Load.isy x true HI.out _).mono ?_); rintro e w2 ⟨rfl, ⟨nd, rfl⟩⟩) | (go_at_call 9; (with_reducible refine (commit_Take.calls x r1 r2 r3 r4 r5 _ HT.out).mono ?_); rintro e w3 ⟨v1, rfl, hR, hb3⟩; obtain ⟨A1, c1, rfl⟩ := Kd.R_slice hR; have HB3 := Aside0.mk (below_step (pw_below_drewN HB.out nd) hb3); have HC := Aside0.mk (M.rec_below (M.rec_drewN (M.rec_new w 24 commit_Load.zero_) nd) hb3); clear hR hb3) | ((with_reducible refine gate_store (t := 24) (p := 4) (v := .tmp 31) rfl ?_); refine M.wp_rec_store rfl 24 _ _ rfl w.heap.size 24 commit_Load.zero_ commit_Load.zero_ rfl rfl (M.rec_alloc HC.out _) rfl commit_Load.size_ rfl ?_; intro w4 hA4 hF4 hB4 hz4; have HB4 := Aside0.mk (hB4 _ _ (Nat.le_refl _) (below_alloc HB3.out _)); have HA4 := Aside0.mk hA4; clear hA4 hF4 hB4 hz4))
 exact bodyPost_ret (v := .tuple #[.agg commit_Load.zero_.toArray, .int .i64 13]) (M.results_rec2 Tryd.results20 _ (by rfl) HA4.out Tryd.underlying24 rfl commit_Load.size_) rfl ⟨rfl, HB4.out⟩
set_option maxHeartbeats 8000000 in
set_option maxRecDepth 100000 in
theorem commit_Load.good (base g : Nat) (F : Nat → Prop) (s : M.SS) (name x : ByteArray) (r1 : Int) (r2 : List ByteArray) (r3 r4 : ByteArray) (w : World) (hS : M.Sh Tryd.prog base w g F s) (hz : name.size ≤ 1000000000000) (hg : s.get name = (x, true)) (hb : commit_Is.f x = some true) (ht : commit_Take.f x = some (r1, r2, r3, r4, 0)) :
    Calls Tryd.prog 20 #[.pointer (some ⟨g, 0, none⟩), .string name] w fun e w' => ∃ A c, e = .returned (.tuple #[.agg #[.int .i64 r1, .slice A r2.length c, .string r3, .string r4], .int .i64 0]) ∧ Kd.R Kd.string 9 w' w.heap.size (fun _ => True) (.slice A r2.length c) r2 ∧ Below w.heap.size w w' := by
 have HS := Aside0.mk (hS.below (below_alloc (Below.refl w.heap.size w) (.cells #[.int .i64 0, .slice none 0 0, .string ⟨#[]⟩, .string ⟨#[]⟩] 24)))
 have HG := Aside0.mk hg
 have HI := Aside0.mk hb
 have HT := Aside0.mk ht
 have HB := Aside0.mk (below_alloc (Below.refl w.heap.size w) (.cells #[.int .i64 0, .slice none 0 0, .string ⟨#[]⟩, .string ⟨#[]⟩] 24))
 clear hS hg hb ht
 go_enter Tryd.func20, Tryd.ntmps20
 go_wp2_with (first | (go_at_call 45; (with_reducible refine (commit_Load.get_ base g F s name x true _ HS.out hz HG.out).mono ?_); rintro e w1 ⟨rfl, rfl⟩) | (go_at_call 12; (with_reducible refine (commit_Load.isy x true HI.out _).mono ?_); rintro e w2 ⟨rfl, ⟨nd, rfl⟩⟩) | (go_at_call 9; (with_reducible refine (commit_Take.calls x r1 r2 r3 r4 0 _ HT.out).mono ?_); rintro e w3 ⟨v1, rfl, hR, hb3⟩; obtain ⟨A1, c1, rfl⟩ := Kd.R_slice hR; have HR3 := Aside0.mk hR; have HB3 := Aside0.mk (below_step (pw_below_drewN HB.out nd) hb3); have HC := Aside0.mk (M.rec_below (M.rec_drewN (M.rec_new w 24 commit_Load.zero_) nd) hb3); clear hR hb3) | ((with_reducible refine gate_dst (N := 32) rfl ?_); refine M.wp_rec_load rfl 24 _ rfl w3.heap.size 24 [.int .i64 r1, .slice A1 r2.length c1, .string r3, .string r4] rfl (M.rec_new w3 24 [.int .i64 r1, .slice A1 r2.length c1, .string r3, .string r4]) _ Tryd.underlying24 rfl commit_Load.size_ ?_) | ((with_reducible refine gate_store (t := 24) (p := 4) (v := .tmp 32) rfl ?_); refine M.wp_rec_store rfl 24 _ _ rfl w.heap.size 24 commit_Load.zero_ [.int .i64 r1, .slice A1 r2.length c1, .string r3, .string r4] rfl rfl (M.rec_alloc HC.out _) rfl commit_Load.size_ rfl ?_; intro w4 hA4 hF4 hB4 hz4; have HB4 := Aside0.mk (hB4 _ _ (Nat.le_refl _) (below_alloc HB3.out _)); have HA4 := Aside0.mk hA4; have HR4 := Aside0.mk (Kd.R_lower (M.row_past HR3.out (M.alloc_lt w _) _ hF4) (Nat.le_of_lt (M.alloc_lt w _))); clear hA4 hF4 hB4 hz4))
 exact bodyPost_ret (v := .tuple #[.agg #[.int .i64 r1, .slice A1 r2.length c1, .string r3, .string r4], .int .i64 0]) (M.results_rec2 Tryd.results20 _ (by rfl) HA4.out Tryd.underlying24 rfl commit_Load.size_) rfl ⟨A1, c1, rfl, HR4.out, HB4.out⟩
set_option maxHeartbeats 8000000 in
set_option maxRecDepth 100000 in
theorem sha_New.calls (w : World) (hT : M.stab w) :
    Calls Tryd.prog 62 #[] w fun e w' => ∃ g, e = .returned (.pointer (some ⟨g, 0, none⟩)) ∧ M.hash w' g 123 0x6a09e667 0xbb67ae85 0x3c6ef372 0xa54ff53a 0x510e527f 0x9b05688c 0x1f83d9ab 0x5be0cd19 (.slice none 0 0) 0 ∧ Below w.heap.size w w' ∧ w.heap.size ≤ g := by
 have c0 := hT.1 0 (by decide)
 have c1 := hT.1 1 (by decide)
 have c2 := hT.1 2 (by decide)
 have c3 := hT.1 3 (by decide)
 have c4 := hT.1 4 (by decide)
 have c5 := hT.1 5 (by decide)
 have c6 := hT.1 6 (by decide)
 have c7 := hT.1 7 (by decide)
 simp only [M.shaH, List.getD_cons_zero, List.getD_cons_succ] at c0 c1 c2 c3 c4 c5 c6 c7
 clear hT
 have a82 := Tryd.isAgg82
 have z82 := Tryd.sizeOf82
 go_enter Tryd.func62, Tryd.ntmps62
 go_wp2
 go_ret
 exact ⟨w.heap.size, rfl, heap_alloc_new w _, below_alloc (Below.refl _ _) _, Nat.le_refl _⟩
theorem sha_Hash_there.calls (g x0 x1 x2 x3 x4 x5 x6 x7 : Nat) (v : Value) (n : Int) (w : World) (hH : M.hash w g 123 x0 x1 x2 x3 x4 x5 x6 x7 v n) :
    Calls Tryd.prog 74 #[.pointer (some ⟨g, 0, none⟩)] w fun e w' => e = .returned (.bool true) ∧ w = w' := by
 have c10 := M.blk_cell hH 10 _ rfl
 clear hH
 go_enter Tryd.func74, Tryd.ntmps74
 go_wp2
 go_ret
 exact ⟨rfl, rfl⟩
def bits_RotateLeft32_p.f (a0 : Int) (a1 : Int) : Option (Int) := if 0 ≤ (Go.bits .and .u64 (IntKind.u64.wrap (a1)) 31) then (if 0 ≤ (IntKind.u64.wrap (32 - (Go.bits .and .u64 (IntKind.u64.wrap (a1)) 31))) then (some (Go.bits .or .u32 (shl .u32 a0 (Go.bits .and .u64 (IntKind.u64.wrap (a1)) 31)) (shr .u32 a0 (IntKind.u64.wrap (32 - (Go.bits .and .u64 (IntKind.u64.wrap (a1)) 31)))))) else (none)) else (none)
set_option maxHeartbeats 8000000 in
set_option maxRecDepth 100000 in
theorem bits_RotateLeft32_p.calls (a0 : Int) (a1 : Int) (r : Int) (w : World) (h : bits_RotateLeft32_p.f a0 a1 = some r) :
    Calls Tryd.prog 81 #[.int .u32 a0, .int .i64 a1] w fun e w' => e = .returned (.int .u32 r) ∧ Drawn0 w w' := by
 have H : (if 0 ≤ (Go.bits .and .u64 (IntKind.u64.wrap (a1)) 31) then (if 0 ≤ (IntKind.u64.wrap (32 - (Go.bits .and .u64 (IntKind.u64.wrap (a1)) 31))) then (some (Go.bits .or .u32 (shl .u32 a0 (Go.bits .and .u64 (IntKind.u64.wrap (a1)) 31)) (shr .u32 a0 (IntKind.u64.wrap (32 - (Go.bits .and .u64 (IntKind.u64.wrap (a1)) 31)))))) else (none)) else (none)) = some r := h
 clear h
 obtain ⟨ji3, hji3⟩ : ∃ j_ : Int, (Go.bits .and .u64 (IntKind.u64.wrap (a1)) 31) = j_ := ⟨_, rfl⟩
 replace H : (if 0 ≤ (ji3) then (if 0 ≤ (IntKind.u64.wrap (32 - (ji3))) then (some (Go.bits .or .u32 (shl .u32 a0 (ji3)) (shr .u32 a0 (IntKind.u64.wrap (32 - (ji3)))))) else (none)) else (none)) = some r := by first | (rw [hji3] at H; exact H) | (simp only [hji3] at H ⊢; exact H)
 by_cases c4 : 0 ≤ (ji3)
 ·rw [if_pos c4] at H
  have c4b0 := eq_true c4
  have c4b1 := decide_eq_true c4
  clear c4
  obtain ⟨ji5, hji5⟩ : ∃ j_ : Int, (shl .u32 a0 (ji3)) = j_ := ⟨_, rfl⟩
  replace H : (if 0 ≤ (IntKind.u64.wrap (32 - (ji3))) then (some (Go.bits .or .u32 (ji5) (shr .u32 a0 (IntKind.u64.wrap (32 - (ji3)))))) else (none)) = some r := by first | (rw [hji5] at H; exact H) | (simp only [hji5] at H ⊢; exact H)
  have hji5_ : (IntKind.u32.wrap (a0 * 2 ^ min (ji3).toNat 32)) = ji5 := hji5
  have hji5z : (ji3) ≤ 32 → (IntKind.u32.wrap (a0 * 2 ^ (ji3).toNat)) = ji5 := shl_small hji5
  obtain ⟨ji6, hji6⟩ : ∃ j_ : Int, (IntKind.u64.wrap (32 - (ji3))) = j_ := ⟨_, rfl⟩
  replace H : (if 0 ≤ (ji6) then (some (Go.bits .or .u32 (ji5) (shr .u32 a0 (ji6)))) else (none)) = some r := by first | (rw [hji6] at H; exact H) | (simp only [hji6] at H ⊢; exact H)
  by_cases c7 : 0 ≤ (ji6)
  ·rw [if_pos c7] at H
   have c7b0 := eq_true c7
   have c7b1 := decide_eq_true c7
   clear c7
   obtain ⟨ji8, hji8⟩ : ∃ j_ : Int, (shr .u32 a0 (ji6)) = j_ := ⟨_, rfl⟩
   replace H : (some (Go.bits .or .u32 (ji5) (ji8))) = some r := by first | (rw [hji8] at H; exact H) | (simp only [hji8] at H ⊢; exact H)
   have hji8_ : (a0 / 2 ^ min (ji6).toNat 32) = ji8 := hji8
   have hji8z : (ji6) ≤ 32 → (a0 / 2 ^ (ji6).toNat) = ji8 := shr_small hji8
   obtain rfl := Option.some.inj H
   go_enter Tryd.func81, Tryd.ntmps81
   go_wp2
   go_ret
   exact ⟨by first | rfl | (simp; done) | (simp only [← hji3, ← hji5, ← hji6, ← hji8] <;> (first | rfl | simp)) | (simp [*]; done), by repeat (first | exact Drawn0.refl _ | apply Drawn0.step)⟩
  ·exact M.nf c7 H
 ·exact M.nf c4 H
def bits_RotateLeft32.f (x k : Int) : Option Int := if 0 ≤ x ∧ x < 4294967296 ∧ -32 < k ∧ k < 0 then some ((M.rotr x.toNat (-k).toNat : Nat) : Int) else none
theorem bits_RotateLeft32.ev (x k r : Int) (h : bits_RotateLeft32.f x k = some r) : bits_RotateLeft32_p.f x k = some r := by
 unfold bits_RotateLeft32.f at h
 split at h
 case isFalse => cases h
 case isTrue hh =>
  obtain ⟨h0, h1, h2, h3⟩ := hh
  obtain ⟨y, rfl⟩ := Int.eq_ofNat_of_zero_le h0
  obtain ⟨n, hn⟩ := Int.eq_ofNat_of_zero_le (show 0 ≤ -k by omega)
  obtain rfl : k = -(n : Int) := by omega
  have hw : IntKind.u64.wrap (-(n : Int)) = ((18446744073709551616 - n : Nat) : Int) := by rw [M.u64_wrap]; omega
  have ha : Go.bits .and .u64 ((18446744073709551616 - n : Nat) : Int) 31 = ((32 - n : Nat) : Int) := by
   have := Go.bits_mask .u64 64 (by decide) (fun n h0 h1 => by rw [M.u64_wrap]; omega) 5 (by decide) (((18446744073709551616 - n : Nat) : Int)) (by omega) (by omega)
   rw [show ((2 : Int) ^ 5 - 1) = 31 from rfl, show ((2 : Int) ^ 5) = 32 from rfl] at this
   rw [this]; omega
  have hs : IntKind.u64.wrap (32 - ((32 - n : Nat) : Int)) = (n : Int) := by rw [M.u64_wrap]; omega
  rw [Int.neg_neg, Int.toNat_natCast, Int.toNat_natCast] at h
  rw [← h]
  unfold bits_RotateLeft32_p.f
  rw [hw, ha, hs, if_pos (by omega), if_pos (by omega)]
  have e1 : shl .u32 (y : Int) ((32 - n : Nat) : Int) = ((y * 2 ^ (32 - n) % 4294967296 : Nat) : Int) := by
   unfold shl
   rw [Int.toNat_natCast, show min (32 - n) IntKind.u32.bits = 32 - n from by show min (32 - n) 32 = 32 - n; omega, M.u32_wrap]
   rw [Int.natCast_emod, Int.natCast_mul, Int.natCast_pow]; rfl
  have e2 : shr .u32 (y : Int) (n : Int) = ((y / 2 ^ n : Nat) : Int) := by
   unfold shr
   rw [Int.toNat_natCast, show min n IntKind.u32.bits = n from by show min n 32 = n; omega]
   rw [Int.natCast_ediv, Int.natCast_pow]; rfl
  rw [e1, e2, M.or32 (Nat.mod_lt _ (by decide)) (Nat.lt_of_le_of_lt (Nat.div_le_self _ _) (by omega))]
  rfl
theorem bits_RotateLeft32.calls (a0 : Int) (a1 : Int) (r : Int) (w : World) (h : bits_RotateLeft32.f a0 a1 = some r) :
    Calls Tryd.prog 81 #[.int .u32 a0, .int .i64 a1] w fun e w' => e = .returned (.int .u32 r) ∧ Drawn0 w w' := by
 exact bits_RotateLeft32_p.calls (w := w) (h := bits_RotateLeft32.ev _ _ _ h)
theorem sha_spread.i90 : (Tryd.prog.info? 129).map (·.size) = some 64 := by kernel_rfl
def sha_spread.mem (bl : List UInt8) (i : Nat) : List Int := M.nums32 (M.sched bl i) ++ List.replicate (64 - i) 0
theorem sha_spread.mem_len (bl : List UInt8) (i : Nat) (h : i ≤ 64) : (sha_spread.mem bl i).length = 64 := by
 unfold sha_spread.mem M.nums32
 rw [List.length_append, List.length_map, M.sched_len, List.length_replicate]; omega
theorem sha_spread.mem_get (bl : List UInt8) (i j : Nat) (h : j < i) : (sha_spread.mem bl i).getD j 0 = ((M.sched bl i).getD j 0 : Nat) := by
 unfold sha_spread.mem M.nums32
 have hl := M.sched_len bl i
 simp only [List.getD_eq_getElem?_getD]
 rw [List.getElem?_append_left (by rw [List.length_map, hl]; exact h), List.getElem?_map, List.getElem?_eq_getElem (by omega)]
 rfl
theorem sha_spread.mem_set (bl : List UInt8) (i : Nat) (h : i < 64) (v : Nat) (hv : M.sched bl (i + 1) = M.sched bl i ++ [v]) : (sha_spread.mem bl i).set i (v : Int) = sha_spread.mem bl (i + 1) := by
 unfold sha_spread.mem M.nums32
 rw [hv, List.map_append, List.set_append_right _ _ (by rw [List.length_map, M.sched_len]; exact Nat.le_refl _), List.length_map, M.sched_len, Nat.sub_self]
 obtain ⟨m, hm⟩ : ∃ m, 64 - i = m + 1 := ⟨63 - i, by omega⟩
 rw [hm, List.replicate_succ, show 64 - (i + 1) = m from by omega]
 simp
theorem sha_spread.mem_zero (bl : List UInt8) : sha_spread.mem bl 0 = List.replicate 64 0 := rfl
theorem sha_spread.mem_all (bl : List UInt8) : sha_spread.mem bl 64 = M.nums32 (M.sched bl 64) := by unfold sha_spread.mem; simp
set_option maxHeartbeats 8000000 in
set_option maxRecDepth 100000 in
theorem sha_spread.calls (ad : Addr) (c0 : Nat) (bl : List UInt8) (w : World) (hb : bl.length = 64) (hr0 : Kd.C (Kd.int .u8) w (some ad) 64 (bl.map fun x => (x.toNat : Int))) (hc0 : 64 ≤ c0) :
    Calls Tryd.prog 80 #[.slice (some ad) 64 c0] w fun e w' => e = .returned (.agg (nums .u32 (M.nums32 (M.sched bl 64))).toArray) ∧ Below w.heap.size w w' := by
 have HR := Aside0.mk hr0
 have HL := Aside0.mk hb
 have HZ := Aside0.mk (sha_spread.mem_zero bl)
 clear hr0 hb
 go_enter Tryd.func80, Tryd.ntmps80
 go_wp2
 go_loopw [9] (fun v9 wr => ∃ i : Nat, v9 = .int .i64 (i : Int) ∧ i ≤ 64 ∧ Aside0 (M.arr wr w.heap.size 129 .u32 (List.replicate 64 0)) ∧ Aside0 (M.arr wr (w.heap.size + 1) 129 .u32 (sha_spread.mem bl i)) ∧ Aside0 (Below w.heap.size w wr)) (fun v9 _ => 64 - (intOf v9).toNat)
 case atStart =>
  refine ⟨0, rfl, Nat.zero_le _, ⟨M.arr_alloc (M.arr_new w 129 .u32 (List.replicate 64 0)) _⟩, ⟨?_⟩, ⟨below_alloc (below_alloc (Below.refl _ _) _) _⟩⟩
  rw [HZ.out]
  have := M.arr_new (w.alloc (.cells (nums .u32 (List.replicate 64 0)).toArray 129)) 129 .u32 (List.replicate 64 0)
  have e : (w.alloc (.cells (nums .u32 (List.replicate 64 0)).toArray 129)).heap.size = w.heap.size + 1 := by simp
  rw [e] at this
  exact this
 case round =>
  obtain ⟨i, rfl, hi, HA1, HA2, HB⟩ := hrel
  by_cases hlt : i < 64
  ·have hlen := sha_spread.mem_len bl i hi
   have hf := M.arr_free HA2.out i
   have hci := M.arr_cell HA2.out i (by omega)
   have g0 : (0 : Int) ≤ (i : Int) := by omega
   have g1 : (i : Int) < 64 := by omega
   by_cases h16 : i < 16
   ·have hbt : ∀ k : Nat, k < 4 → wr.cell? (ad.add (4 * i + k)) = some (.int .u8 ((bl.getD (4 * i + k) 0).toNat : Int)) := by
     intro k hk
     obtain ⟨ad', e', hx⟩ := Kd.at_int HR.out ((4 * i + k : Nat) : Int) (by omega) (by omega)
     cases e'
     rw [Int.toNat_natCast] at hx
     have hrd : rd (bl.map fun x => (x.toNat : Int)) ((4 * i + k : Nat) : Int) = ((bl.getD (4 * i + k) 0).toNat : Int) := by
      have hl := HL.out
      unfold rd
      rw [Int.toNat_natCast]
      simp [List.getD, show 4 * i + k < bl.length by omega]
     rw [hrd] at hx
     exact (HB.out.cell (World.block_lt_of_cell? w _ hx)).trans hx
    have c0_ := hbt 0 (by omega)
    have c1_ := hbt 1 (by omega)
    have c2_ := hbt 2 (by omega)
    have c3_ := hbt 3 (by omega)
    have l0 := (bl.getD (4 * i + 0) 0).toNat_lt
    have l1 := (bl.getD (4 * i + 1) 0).toNat_lt
    have l2 := (bl.getD (4 * i + 2) 0).toNat_lt
    have l3 := (bl.getD (4 * i + 3) 0).toNat_lt
    have HN := Aside0.mk (sha_spread.mem_set bl i hlt (M.word bl i) (by rw [M.sched, if_pos h16]))
    have HWd := Aside0.mk (show M.word bl i = (bl.getD (4 * i + 0) 0).toNat * 16777216 + (bl.getD (4 * i + 1) 0).toNat * 65536 + (bl.getD (4 * i + 2) 0).toNat * 256 + (bl.getD (4 * i + 3) 0).toNat from rfl)
    generalize (bl.getD (4 * i + 0) 0).toNat = b0 at c0_ l0 HWd
    generalize (bl.getD (4 * i + 1) 0).toNat = b1 at c1_ l1 HWd
    generalize (bl.getD (4 * i + 2) 0).toNat = b2 at c2_ l2 HWd
    generalize (bl.getD (4 * i + 3) 0).toNat = b3 at c3_ l3 HWd
    obtain ⟨j0, hj0⟩ : ∃ j, j = 4 * i + 0 := ⟨_, rfl⟩
    obtain ⟨j1, hj1⟩ : ∃ j, j = 4 * i + 1 := ⟨_, rfl⟩
    obtain ⟨j2, hj2⟩ : ∃ j, j = 4 * i + 2 := ⟨_, rfl⟩
    obtain ⟨j3, hj3⟩ : ∃ j, j = 4 * i + 3 := ⟨_, rfl⟩
    rw [← hj0] at c0_
    rw [← hj1] at c1_
    rw [← hj2] at c2_
    rw [← hj3] at c3_
    have w0 : IntKind.i64.wrap (4 * (i : Int)) = (j0 : Int) := by simp [IntKind.wrap, IntKind.bits, IntKind.signed]; omega
    have w1 : IntKind.i64.wrap ((j0 : Int) + 1) = (j1 : Int) := by simp [IntKind.wrap, IntKind.bits, IntKind.signed]; omega
    have w2 : IntKind.i64.wrap ((j0 : Int) + 2) = (j2 : Int) := by simp [IntKind.wrap, IntKind.bits, IntKind.signed]; omega
    have w3 : IntKind.i64.wrap ((j0 : Int) + 3) = (j3 : Int) := by simp [IntKind.wrap, IntKind.bits, IntKind.signed]; omega
    have i0 : (0 : Int) ≤ (j0 : Int) ∧ (j0 : Int) < 64 := by omega
    have i1 : (0 : Int) ≤ (j1 : Int) ∧ (j1 : Int) < 64 := by omega
    have i2 : (0 : Int) ≤ (j2 : Int) ∧ (j2 : Int) < 64 := by omega
    have i3 : (0 : Int) ≤ (j3 : Int) ∧ (j3 : Int) < 64 := by omega
    have u0 : IntKind.u32.wrap (b0 : Int) = (b0 : Int) := by rw [M.u32_wrap]; omega
    have u1 : IntKind.u32.wrap (b1 : Int) = (b1 : Int) := by rw [M.u32_wrap]; omega
    have u2 : IntKind.u32.wrap (b2 : Int) = (b2 : Int) := by rw [M.u32_wrap]; omega
    have u3 : IntKind.u32.wrap (b3 : Int) = (b3 : Int) := by rw [M.u32_wrap]; omega
    clear hj0 hj1 hj2 hj3
    clear hbt
    go_wp2
    go_region
    all_goals
     (try go_wp2)
     refine ⟨⟨i + 1, by go_num, by omega, ⟨M.arr_drew (M.arr_far HA1.out _ (by show w.heap.size ≠ w.heap.size + 1; omega) _)⟩, ⟨?_⟩, ⟨below_drew1 (HB.out.setCell (by show w.heap.size ≤ w.heap.size + 1; omega) _)⟩⟩, by simp [intOf]; omega⟩
     rw [M.word_bits l0 l1 l2 l3, ← HWd.out, ← HN.out]
     exact M.arr_drew (M.arr_set HA2.out i (M.word bl i : Int))
   ·have hge : ¬ (i : Int) < 16 := by omega
    have HN := Aside0.mk (sha_spread.mem_set bl i hlt _ (by rw [M.sched, if_neg h16]))
    have a16 := M.arr_cell HA2.out (i - 16) (by omega)
    have a15 := M.arr_cell HA2.out (i - 15) (by omega)
    have a7 := M.arr_cell HA2.out (i - 7) (by omega)
    have a2 := M.arr_cell HA2.out (i - 2) (by omega)
    rw [sha_spread.mem_get bl i _ (by omega)] at a16 a15 a7 a2
    have b16 := M.sched_lt bl i (i - 16)
    have b15 := M.sched_lt bl i (i - 15)
    have b7 := M.sched_lt bl i (i - 7)
    have b2 := M.sched_lt bl i (i - 2)
    generalize (M.sched bl i).getD (i - 16) 0 = x16 at HN a16 b16
    generalize (M.sched bl i).getD (i - 15) 0 = x15 at HN a15 b15
    generalize (M.sched bl i).getD (i - 7) 0 = x7 at HN a7 b7
    generalize (M.sched bl i).getD (i - 2) 0 = x2 at HN a2 b2
    obtain ⟨j16, hj16⟩ : ∃ j, j = i - 16 := ⟨_, rfl⟩
    obtain ⟨j15, hj15⟩ : ∃ j, j = i - 15 := ⟨_, rfl⟩
    obtain ⟨j7, hj7⟩ : ∃ j, j = i - 7 := ⟨_, rfl⟩
    obtain ⟨j2, hj2⟩ : ∃ j, j = i - 2 := ⟨_, rfl⟩
    rw [← hj16] at a16
    rw [← hj15] at a15
    rw [← hj7] at a7
    rw [← hj2] at a2
    have w16 : IntKind.i64.wrap ((i : Int) - 16) = (j16 : Int) := by simp [IntKind.wrap, IntKind.bits, IntKind.signed]; omega
    have w15 : IntKind.i64.wrap ((i : Int) - 15) = (j15 : Int) := by simp [IntKind.wrap, IntKind.bits, IntKind.signed]; omega
    have w7 : IntKind.i64.wrap ((i : Int) - 7) = (j7 : Int) := by simp [IntKind.wrap, IntKind.bits, IntKind.signed]; omega
    have w2 : IntKind.i64.wrap ((i : Int) - 2) = (j2 : Int) := by simp [IntKind.wrap, IntKind.bits, IntKind.signed]; omega
    have i16 : (0 : Int) ≤ (j16 : Int) ∧ (j16 : Int) < 64 := by omega
    have i15 : (0 : Int) ≤ (j15 : Int) ∧ (j15 : Int) < 64 := by omega
    have i7 : (0 : Int) ≤ (j7 : Int) ∧ (j7 : Int) < 64 := by omega
    have i2 : (0 : Int) ≤ (j2 : Int) ∧ (j2 : Int) < 64 := by omega
    have r1 := M.rotr_lt (n := 7) b15
    have r2 := M.rotr_lt (n := 18) b15
    have r3 := M.rotr_lt (n := 17) b2
    have r4 := M.rotr_lt (n := 19) b2
    have H1 : Aside0 (bits_RotateLeft32.f (x15 : Int) (-7) = some ((M.rotr x15 7 : Nat) : Int)) := ⟨by unfold bits_RotateLeft32.f; rw [if_pos (by omega)]; rfl⟩
    have H2 : Aside0 (bits_RotateLeft32.f (x15 : Int) (-18) = some ((M.rotr x15 18 : Nat) : Int)) := ⟨by unfold bits_RotateLeft32.f; rw [if_pos (by omega)]; rfl⟩
    have H3 : Aside0 (bits_RotateLeft32.f (x2 : Int) (-17) = some ((M.rotr x2 17 : Nat) : Int)) := ⟨by unfold bits_RotateLeft32.f; rw [if_pos (by omega)]; rfl⟩
    have H4 : Aside0 (bits_RotateLeft32.f (x2 : Int) (-19) = some ((M.rotr x2 19 : Nat) : Int)) := ⟨by unfold bits_RotateLeft32.f; rw [if_pos (by omega)]; rfl⟩
    have HS0 := Aside0.mk (show M.sg0 x15 = M.rotr x15 7 ^^^ M.rotr x15 18 ^^^ (x15 / 8) from rfl)
    have HS1 := Aside0.mk (show M.sg1 x2 = M.rotr x2 17 ^^^ M.rotr x2 19 ^^^ (x2 / 1024) from rfl)
    generalize M.rotr x15 7 = p1 at r1 H1 HS0
    generalize M.rotr x15 18 = p2 at r2 H2 HS0
    generalize M.rotr x2 17 = p3 at r3 H3 HS1
    generalize M.rotr x2 19 = p4 at r4 H4 HS1
    clear hj16 hj15 hj7 hj2
    have e1 : Go.bits .xor .u32 (Go.bits .xor .u32 (p1 : Int) (p2 : Int)) ((x15 : Int) / 8) = (M.sg0 x15 : Int) := by
     rw [M.xor32 r1 r2, show (x15 : Int) / 8 = ((x15 / 8 : Nat) : Int) from by omega, M.xor32 (M.xor_lt r1 r2) (by omega), HS0.out]
    have e2 : Go.bits .xor .u32 (Go.bits .xor .u32 (p3 : Int) (p4 : Int)) ((x2 : Int) / 1024) = (M.sg1 x2 : Int) := by
     rw [M.xor32 r3 r4, show (x2 : Int) / 1024 = ((x2 / 1024 : Nat) : Int) from by omega, M.xor32 (M.xor_lt r3 r4) (by omega), HS1.out]
    go_wp2
    go_region
    all_goals
     go_wp2_with (first | (go_at_call 81; (with_reducible refine (bits_RotateLeft32.calls (x15 : Int) (-7) _ _ H1.out).mono ?_); rintro e w1 ⟨rfl, ⟨n1, rfl⟩⟩) | (go_at_call 81; (with_reducible refine (bits_RotateLeft32.calls (x15 : Int) (-18) _ _ H2.out).mono ?_); rintro e w1 ⟨rfl, ⟨n2, rfl⟩⟩) | (go_at_call 81; (with_reducible refine (bits_RotateLeft32.calls (x2 : Int) (-17) _ _ H3.out).mono ?_); rintro e w1 ⟨rfl, ⟨n3, rfl⟩⟩) | (go_at_call 81; (with_reducible refine (bits_RotateLeft32.calls (x2 : Int) (-19) _ _ H4.out).mono ?_); rintro e w1 ⟨rfl, ⟨n4, rfl⟩⟩))
     go_region
     all_goals
      (try go_wp2)
      refine ⟨⟨i + 1, by go_num, by omega, ⟨M.arr_far (M.arr_drewN HA1.out _) _ (by show w.heap.size ≠ w.heap.size + 1; omega) _⟩, ⟨?_⟩, ⟨(pw_below_drewN HB.out _).setCell (by show w.heap.size ≤ w.heap.size + 1; omega) _⟩⟩, by simp [intOf]; omega⟩
      rw [← HN.out]
      exact M.arr_set (M.arr_drewN HA2.out _) i (((x16 + M.sg0 x15 + x7 + M.sg1 x2) % 4294967296 : Nat) : Int)
  ·obtain rfl : i = 64 := by omega
   have HM := Aside0.mk (sha_spread.mem_len bl 64 hi)
   have HE := Aside0.mk (sha_spread.mem_all bl)
   go_wp2_with (first | ((with_reducible refine gate_dst (N := 89) rfl ?_); refine M.wp_arr_load rfl 129 _ rfl (w.heap.size + 1) 129 .u32 (sha_spread.mem bl 64) rfl HA2.out _ Tryd.underlying129 rfl (by rw [HM.out]; exact sha_spread.i90) ?_) | ((with_reducible refine gate_store (t := 129) (p := 2) (v := .tmp 89) rfl ?_); refine M.wp_arr_store rfl 129 _ _ rfl w.heap.size 129 .u32 (List.replicate 64 0) (sha_spread.mem bl 64) rfl rfl HA1.out HM.out sha_spread.i90 ?_; intro w2 hA2 hF2 hB2 hz2; have HA3 := Aside0.mk hA2; have HB3 := Aside0.mk (hB2 _ _ (Nat.le_refl _) HB.out); clear hA2 hF2 hB2 hz2))
   have hload := M.arr_loadVar (P := Tryd.prog) HA3.out 129 _ Tryd.underlying129 rfl (by rw [HM.out]; exact sha_spread.i90)
   refine bodyPost_ret (v := .agg (nums .u32 (sha_spread.mem bl 64)).toArray) (by exact M.results_arr1 (fn := Tryd.f80) (t := 2) (ty := 129) (by rfl) _ (by rfl) hload) rfl ⟨?_, HB3.out⟩
   rw [HE.out]
end Go.Proofs.YtikdbklmhjlfoaaDoor.ECommitKnots
