-- Written by this session's own program (wip/tools/ext.py) for this claim; Lean checks it.
import Derived.Test.YtikdbklmhjlfoaaDoorECommitTakesx0
import Derived.Test.YtikdbklmhjlfoaaDoorECommitTakesx1
import Derived.Test.YtikdbklmhjlfoaaDoorECommitTakesx3
import Derived.Test.YtikdbklmhjlfoaaDoorECommitTakesx5
import Derived.Test.YtikdbklmhjlfoaaDoorECommitTakesx9
import Derived.Test.YtikdbklmhjlfoaaDoorECommitTakesx10
import Derived.Test.YtikdbklmhjlfoaaDoorECommitTakesx11
namespace Go.Proofs.YtikdbklmhjlfoaaDoor.ECommitTakes
open Go.RowKit Go.Proofs.YtikdbklmhjlfoaaDoorW.PrintWords Go.Proofs.YtikdbklmhjlfoaaDoorW.PrintLast Go.Proofs.YtikdbklmhjlfoaaDoorW.PrintMore
attribute [local go_sem] M.run_leq M.run_gtr M.run_geq max2_int min2_int max_two min_two max_three min_three max_four min_four   -- for this text's walks alone
set_option linter.unusedVariables false
set_option linter.unusedSimpArgs false

/-! ### pleachlaw35_CommitTakes: function 3 -/
mutual
def pleachlaw35_CommitTakes.j0 : Nat → ByteArray → Bool → Int → List ByteArray → ByteArray → ByteArray → Option (Bool)
  | 0, _, _, _, _, _, _ => none
  | k + 1, x0, x22, zaa, zab, zac, zad => if x22 = true then ((pleachlaw35_awake.f).bind fun t289 => (some t289)) else ((commit_Take.f x0).bind fun bt290 => ((pleachref35_Take.f x0).bind fun bt298 => ((pleachref35_Same.f bt290.1 bt290.2.1 bt290.2.2.1 bt290.2.2.2.1 bt298.1 bt298.2.1 bt298.2.2.1 bt298.2.2.2.1).bind fun t306 => (if t306 = true then (if ((bt290.2.2.2.2 == 0) != bt298.2.2.2.2) = true then (pleachlaw35_CommitTakes.j1 k x0 bt298.2.2.2.2 true zaa zab zac zad bt290.1 bt290.2.1 bt290.2.2.1 bt290.2.2.2.1) else (if bt298.2.2.2.2 = true then ((commit_Is.f x0).bind fun t307 => (if x0.toList = ([] : List UInt8) then (pleachlaw35_CommitTakes.j1 k x0 bt298.2.2.2.2 (t307 != false) zaa zab zac zad bt290.1 bt290.2.1 bt290.2.2.1 bt290.2.2.2.1) else (if 0 < (x0.size : Int) then (pleachlaw35_CommitTakes.j1 k x0 bt298.2.2.2.2 (t307 != ((bt x0 0) == 67)) zaa zab zac zad bt290.1 bt290.2.1 bt290.2.2.1 bt290.2.2.2.1) else (none)))) else (if bt290.2.2.2.2 = 3 then ((commit_Is.f x0).bind fun t308 => (if x0.toList = ([] : List UInt8) then (pleachlaw35_CommitTakes.j1 k x0 bt298.2.2.2.2 (t308 != false) zaa zab zac zad bt290.1 bt290.2.1 bt290.2.2.1 bt290.2.2.2.1) else (if 0 < (x0.size : Int) then (pleachlaw35_CommitTakes.j1 k x0 bt298.2.2.2.2 (t308 != ((bt x0 0) == 67)) zaa zab zac zad bt290.1 bt290.2.1 bt290.2.2.1 bt290.2.2.2.1) else (none)))) else (pleachlaw35_CommitTakes.j1 k x0 bt298.2.2.2.2 true zaa zab zac zad bt290.1 bt290.2.1 bt290.2.2.1 bt290.2.2.2.1)))) else (pleachlaw35_CommitTakes.j1 k x0 bt298.2.2.2.2 true zaa zab zac zad bt290.1 bt290.2.1 bt290.2.2.1 bt290.2.2.2.1)))))
def pleachlaw35_CommitTakes.j1 : Nat → ByteArray → Bool → Bool → Int → List ByteArray → ByteArray → ByteArray → Int → List ByteArray → ByteArray → ByteArray → Option (Bool)
  | 0, _, _, _, _, _, _, _, _, _, _, _ => none
  | k + 1, x0, x8, x63, zaa, zab, zac, zad, zae, zaf, zag, zah => if x63 = true then (some false) else ((commit_Put.f zae zaf zag zah).bind fun bt309 => (if x8 = true then (if bt309.1.toList = x0.toList then (pleachlaw35_CommitTakes.j2 k (bt309.2 != 0) zaa zab zac zad) else (pleachlaw35_CommitTakes.j2 k true zaa zab zac zad)) else (pleachlaw35_CommitTakes.j2 k false zaa zab zac zad)))
def pleachlaw35_CommitTakes.j2 : Nat → Bool → Int → List ByteArray → ByteArray → ByteArray → Option (Bool)
  | 0, _, _, _, _, _ => none
  | k + 1, x78, zaa, zab, zac, zad => if x78 = true then (some false) else ((commit_Put.f zaa zab zac zad).bind fun bt311 => (if bt311.2 = 0 then ((commit_Take.f bt311.1).bind fun bt314 => ((pleachref35_Same.f zaa zab zac zad bt314.1 bt314.2.1 bt314.2.2.1 bt314.2.2.2.1).bind fun t322 => (if t322 = true then (if bt314.2.2.2.2 = 0 then ((pleachlaw35_awake.f).bind fun t323 => (some t323)) else (some false)) else (some false)))) else ((pleachlaw35_awake.f).bind fun t313 => (some t313))))
end
def pleachlaw35_CommitTakes.f (k : Nat) (a0 : ByteArray) (a1_0 : Int) (l1_1 : List ByteArray) (a1_2 : ByteArray) (a1_3 : ByteArray) : Option (Bool) := if (a0.size : Int) > 1000 then (pleachlaw35_CommitTakes.j0 k a0 true a1_0 l1_1 a1_2 a1_3) else ((pleachlaw35_few.f a1_0 l1_1 a1_2 a1_3).bind fun t288 => (pleachlaw35_CommitTakes.j0 k a0 (!t288) a1_0 l1_1 a1_2 a1_3))
theorem pleachlaw35_CommitTakes.mono_l : ∀ k, (∀ y0 y1 y2 y3 y4 y5, LeO (pleachlaw35_CommitTakes.j0 k y0 y1 y2 y3 y4 y5) (pleachlaw35_CommitTakes.j0 (k + 1) y0 y1 y2 y3 y4 y5)) ∧ (∀ y0 y1 y2 y3 y4 y5 y6 y7 y8 y9 y10, LeO (pleachlaw35_CommitTakes.j1 k y0 y1 y2 y3 y4 y5 y6 y7 y8 y9 y10) (pleachlaw35_CommitTakes.j1 (k + 1) y0 y1 y2 y3 y4 y5 y6 y7 y8 y9 y10)) ∧ (∀ y0 y1 y2 y3 y4, LeO (pleachlaw35_CommitTakes.j2 k y0 y1 y2 y3 y4) (pleachlaw35_CommitTakes.j2 (k + 1) y0 y1 y2 y3 y4))
  | 0 => ⟨fun _ _ _ _ _ _ r h => by simp [pleachlaw35_CommitTakes.j0] at h, fun _ _ _ _ _ _ _ _ _ _ _ r h => by simp [pleachlaw35_CommitTakes.j1] at h, fun _ _ _ _ _ r h => by simp [pleachlaw35_CommitTakes.j2] at h⟩
  | k + 1 => by
    obtain ⟨ih0, ih1, ih2⟩ := pleachlaw35_CommitTakes.mono_l k
    refine ⟨?_, ?_, ?_⟩
    · intro y0 y1 y2 y3 y4 y5
      unfold pleachlaw35_CommitTakes.j0
      repeat' first
      | (with_reducible exact ih0 _ _ _ _ _ _)
      | (with_reducible exact ih1 _ _ _ _ _ _ _ _ _ _ _)
      | (with_reducible exact ih2 _ _ _ _ _)
      | (with_reducible exact LeO.refl _)
      | (with_reducible exact LeO.none _)
      | (with_reducible refine LeO.ite ?_ ?_)
      | (with_reducible refine LeO.bind ?_ (fun _ => ?_))
      | exact ih0 _ _ _ _ _ _
      | exact ih1 _ _ _ _ _ _ _ _ _ _ _
      | exact ih2 _ _ _ _ _
      | exact LeO.none _
      | refine LeO.ite ?_ ?_
      | refine LeO.bind ?_ (fun _ => ?_)
    · intro y0 y1 y2 y3 y4 y5 y6 y7 y8 y9 y10
      unfold pleachlaw35_CommitTakes.j1
      repeat' first
      | (with_reducible exact ih0 _ _ _ _ _ _)
      | (with_reducible exact ih1 _ _ _ _ _ _ _ _ _ _ _)
      | (with_reducible exact ih2 _ _ _ _ _)
      | (with_reducible exact LeO.refl _)
      | (with_reducible exact LeO.none _)
      | (with_reducible refine LeO.ite ?_ ?_)
      | (with_reducible refine LeO.bind ?_ (fun _ => ?_))
      | exact ih0 _ _ _ _ _ _
      | exact ih1 _ _ _ _ _ _ _ _ _ _ _
      | exact ih2 _ _ _ _ _
      | exact LeO.none _
      | refine LeO.ite ?_ ?_
      | refine LeO.bind ?_ (fun _ => ?_)
    · intro y0 y1 y2 y3 y4
      unfold pleachlaw35_CommitTakes.j2
      repeat' first
      | (with_reducible exact ih0 _ _ _ _ _ _)
      | (with_reducible exact ih1 _ _ _ _ _ _ _ _ _ _ _)
      | (with_reducible exact ih2 _ _ _ _ _)
      | (with_reducible exact LeO.refl _)
      | (with_reducible exact LeO.none _)
      | (with_reducible refine LeO.ite ?_ ?_)
      | (with_reducible refine LeO.bind ?_ (fun _ => ?_))
      | exact ih0 _ _ _ _ _ _
      | exact ih1 _ _ _ _ _ _ _ _ _ _ _
      | exact ih2 _ _ _ _ _
      | exact LeO.none _
      | refine LeO.ite ?_ ?_
      | refine LeO.bind ?_ (fun _ => ?_)
theorem pleachlaw35_CommitTakes.mono : ∀ a0 a1 a2 a3 a4 k, LeO (pleachlaw35_CommitTakes.f k a0 a1 a2 a3 a4) (pleachlaw35_CommitTakes.f (k + 1) a0 a1 a2 a3 a4) := by
  intro a0 a1 a2 a3 a4 k
  obtain ⟨ih0, ih1, ih2⟩ := pleachlaw35_CommitTakes.mono_l k
  unfold pleachlaw35_CommitTakes.f
  repeat' first
      | (with_reducible exact ih0 _ _ _ _ _ _)
      | (with_reducible exact ih1 _ _ _ _ _ _ _ _ _ _ _)
      | (with_reducible exact ih2 _ _ _ _ _)
      | (with_reducible exact LeO.refl _)
      | (with_reducible exact LeO.none _)
      | (with_reducible refine LeO.ite ?_ ?_)
      | (with_reducible refine LeO.bind ?_ (fun _ => ?_))
      | exact ih0 _ _ _ _ _ _
      | exact ih1 _ _ _ _ _ _ _ _ _ _ _
      | exact ih2 _ _ _ _ _
      | exact LeO.none _
      | refine LeO.ite ?_ ?_
      | refine LeO.bind ?_ (fun _ => ?_)
set_option maxHeartbeats 8000000 in
set_option maxRecDepth 100000 in
theorem pleachlaw35_CommitTakes.calls (k : Nat) (a0 : ByteArray) (a1_0 : Int) (A1_1 : Option Addr) (c1_1 : Nat) (l1_1 : List ByteArray) (a1_2 : ByteArray) (a1_3 : ByteArray) (r : Bool) (w : World) (hr1_1 : Kd.C Kd.string w A1_1 l1_1.length l1_1) (hc1_1 : l1_1.length ≤ c1_1) (h : pleachlaw35_CommitTakes.f k a0 a1_0 l1_1 a1_2 a1_3 = some r) (hT : M.stab w) :
    Calls Tryd.prog 3 #[.string a0, .agg #[.int .i64 a1_0, .slice A1_1 l1_1.length c1_1, .string a1_2, .string a1_3]] w fun e w' => e = .returned (.bool r) ∧ Below w.heap.size w w' := by
  have HT := Aside0.mk hT
  clear hT
  have hu24 := Tryd.underlying24
  have HR1_1 := Aside0.mk hr1_1
  have HC1_1 := Aside0.mk hc1_1
  clear hr1_1 hc1_1
  have HB := Aside0.mk (Below.refl w.heap.size w)
  have H : (if (a0.size : Int) > 1000 then (pleachlaw35_CommitTakes.j0 k a0 true a1_0 l1_1 a1_2 a1_3) else ((pleachlaw35_few.f a1_0 l1_1 a1_2 a1_3).bind fun t288 => (pleachlaw35_CommitTakes.j0 k a0 (!t288) a1_0 l1_1 a1_2 a1_3))) = some r := h
  clear h
  have HC3 := Aside0.mk H
  clear H
  go_enter Tryd.func3, Tryd.ntmps3
  go_upto_region 1 with (first | ((with_reducible refine gate_dst (N := 3) rfl ?_); refine box_event ?hg (N := 3) ?hd (cs := #[.int .i64 a1_0, .slice A1_1 l1_1.length c1_1, .string a1_2, .string a1_3]) (t := 24) ?hr ?_; (case hd => rfl); (case hg => rfl); (case hr => first | (go_simp; done) | (go_simp; rfl)); intro zai hg w4 hbox hb; have n0_ := M.upS HB hb; have n1_ := Aside0.mk (hbox); have n2_ := M.upG HB hg; have n3_ := M.upG HB hg; clear HB; have HB := n0_; have zaj := n1_; have zak := n2_; have zal := n3_; clear n0_ n1_ n2_ n3_; clear hb hbox hg))
  (try simp only [Act.put, List.setIfInBounds_toArray, List.set_cons_zero, List.set_cons_succ])
  go_cut [22] (fun v22 wc => ∃ (kq : Nat) (x22_2 : Bool), v22 = .bool x22_2 ∧ Aside0 (pleachlaw35_CommitTakes.j0 kq a0 x22_2 a1_0 l1_1 a1_2 a1_3 = some r) ∧ Aside0 (kq ≤ k) ∧ Aside0 (wc.heap[zai]? = some (.cells #[.int .i64 a1_0, (.slice A1_1 l1_1.length c1_1), .string a1_2, .string a1_3] 24 (0, 0))) ∧ Aside0 (Below w.heap.size w wc))
  case first =>
    have H := HC3.out
    clear HC3
    by_cases c5 : (a0.size : Int) > 1000
    · rw [if_pos c5] at H
      have c5b0 : decide (1000 < (a0.size : Int)) = true := decide_eq_true c5
      have c5b1 : decide (1000 < a0.size) = true := decide_eq_true (by omega)
      clear c5
      (first | rw [c5b0] | (simp only [i64_w, i32_w]; rw [c5b0]) | skip)
      have H' := Aside0.mk H
      clear H
      go_wp2
      go_meet
      case rel => exact ⟨_, (true), (by first | rfl | (simp; done) | (simp [*]; done) | (simp [M.isEmpty_bne]; done)), H', ⟨by first | omega | exact Nat.le_refl _⟩, ⟨by (with_reducible repeat (first | refine blk_drewN ?_ _ | refine blk_drew ?_ | refine blk_alloc ?_ _)); exact zaj.out⟩, ⟨M.up HB⟩⟩
    · rw [if_neg c5] at H
      have c5b0 : decide (1000 < (a0.size : Int)) = false := decide_eq_false c5
      have c5b1 : decide (1000 < a0.size) = false := decide_eq_false (by omega)
      clear c5
      (first | rw [c5b0] | (simp only [i64_w, i32_w]; rw [c5b0]) | skip)
      replace H := Option.bind_eq_some_iff.mp H
      obtain ⟨t288, A60, H⟩ := H
      replace H : (pleachlaw35_CommitTakes.j0 k a0 (!t288) a1_0 l1_1 a1_2 a1_3) = some r := H
      have A6 := Aside0.mk A60
      clear A60
      have H' := Aside0.mk H
      clear H
      have zam : w4.cell? ⟨zai, 0, none⟩ = some (.int .i64 a1_0) := (blk_cell zaj.out 0).trans rfl
      have zan : w4.cell? ⟨zai, 1, none⟩ = some (.slice A1_1 l1_1.length c1_1) := (blk_cell zaj.out 1).trans rfl
      have zao : w4.cell? ⟨zai, 2, none⟩ = some (.string a1_2) := (blk_cell zaj.out 2).trans rfl
      have zap : w4.cell? ⟨zai, 3, none⟩ = some (.string a1_3) := (blk_cell zaj.out 3).trans rfl
      have zaq := blk_frozen zaj.out 0
      have zar := blk_frozen zaj.out 1
      have zas := blk_frozen zaj.out 2
      have zat := blk_frozen zaj.out 3
      go_wp2_with (first | (go_at_call 7; (with_reducible refine (pleachlaw35_few.calls a1_0 _ _ l1_1 a1_2 a1_3 t288 _ ?side1 ?side2 A6.out).mono ?_); (case side1 => exact M.cB HR1_1 HB); (case side2 => exact HC1_1.out); rintro e w8 ⟨rfl, hb⟩; have n0_ := M.bkB zaj hb; have n1_ := M.upS HB hb; clear zaj HB; have zaj := n0_; have HB := n1_; clear n0_ n1_; (try clear hb); (try clear hb2); (try clear hk); (try clear hi)))
      go_meet
      case rel => exact ⟨_, (!t288), (by first | rfl | (simp; done) | (simp [*]; done) | (simp [M.isEmpty_bne]; done)), H', ⟨by first | omega | exact Nat.le_refl _⟩, ⟨by (with_reducible repeat (first | refine blk_drewN ?_ _ | refine blk_drew ?_ | refine blk_alloc ?_ _)); exact zaj.out⟩, ⟨M.up HB⟩⟩
  case rest =>
    clear HC3
    try clear c1
    try clear p2
    try clear c3
    try clear c5
    try clear c5b0
    try clear c5b1
    try clear zam
    try clear zan
    try clear zao
    try clear zap
    try clear zaq
    try clear zar
    try clear zas
    try clear zat
    obtain ⟨kq, x22_2, rfl, HA, HJ2, zaj, HB⟩ := hcut
    cases kq with
    | zero => exact absurd HA.out (by simp [pleachlaw35_CommitTakes.j0])
    | succ kj2 =>
      have H := HA.out
      clear HA
      simp only [pleachlaw35_CommitTakes.j0] at H
      by_cases c9 : x22_2 = true
      · subst c9
        have H1 : ((pleachlaw35_awake.f).bind fun t289 => (some t289)) = some r := by rw [if_pos rfl] at H; exact H
        clear H
        have H := H1
        clear H1
        replace H := Option.bind_eq_some_iff.mp H
        obtain ⟨t289, A100, H⟩ := H
        replace H : (some t289) = some r := H
        have A10 := Aside0.mk A100
        clear A100
        obtain rfl := Option.some.inj H
        go_wp2_with (first | ((with_reducible refine gate_callee (f := 8) rfl ?_); refine M.goes (some 23) Tryd.func8 #[] rfl ?_; (with_reducible refine (pleachlaw35_awake.calls  t289 _ A10.out (hT := M.stab_up HT (M.up HB))).mono ?_); rintro e w11 ⟨rfl, hb⟩; refine ⟨_, rfl, ?_⟩; have n0_ := M.bkB zaj hb; have n1_ := M.upS HB hb; clear zaj HB; have zaj := n0_; have HB := n1_; clear n0_ n1_; (try clear hb)))
        go_ret
        exact M.fin (M.up HB)
      · replace c9 := Bool.eq_false_iff.mpr c9
        subst c9
        have H1 : ((commit_Take.f a0).bind fun bt290 => ((pleachref35_Take.f a0).bind fun bt298 => ((pleachref35_Same.f bt290.1 bt290.2.1 bt290.2.2.1 bt290.2.2.2.1 bt298.1 bt298.2.1 bt298.2.2.1 bt298.2.2.2.1).bind fun t306 => (if t306 = true then (if ((bt290.2.2.2.2 == 0) != bt298.2.2.2.2) = true then (pleachlaw35_CommitTakes.j1 kj2 a0 bt298.2.2.2.2 true a1_0 l1_1 a1_2 a1_3 bt290.1 bt290.2.1 bt290.2.2.1 bt290.2.2.2.1) else (if bt298.2.2.2.2 = true then ((commit_Is.f a0).bind fun t307 => (if a0.toList = ([] : List UInt8) then (pleachlaw35_CommitTakes.j1 kj2 a0 bt298.2.2.2.2 (t307 != false) a1_0 l1_1 a1_2 a1_3 bt290.1 bt290.2.1 bt290.2.2.1 bt290.2.2.2.1) else (if 0 < (a0.size : Int) then (pleachlaw35_CommitTakes.j1 kj2 a0 bt298.2.2.2.2 (t307 != ((bt a0 0) == 67)) a1_0 l1_1 a1_2 a1_3 bt290.1 bt290.2.1 bt290.2.2.1 bt290.2.2.2.1) else (none)))) else (if bt290.2.2.2.2 = 3 then ((commit_Is.f a0).bind fun t308 => (if a0.toList = ([] : List UInt8) then (pleachlaw35_CommitTakes.j1 kj2 a0 bt298.2.2.2.2 (t308 != false) a1_0 l1_1 a1_2 a1_3 bt290.1 bt290.2.1 bt290.2.2.1 bt290.2.2.2.1) else (if 0 < (a0.size : Int) then (pleachlaw35_CommitTakes.j1 kj2 a0 bt298.2.2.2.2 (t308 != ((bt a0 0) == 67)) a1_0 l1_1 a1_2 a1_3 bt290.1 bt290.2.1 bt290.2.2.1 bt290.2.2.2.1) else (none)))) else (pleachlaw35_CommitTakes.j1 kj2 a0 bt298.2.2.2.2 true a1_0 l1_1 a1_2 a1_3 bt290.1 bt290.2.1 bt290.2.2.1 bt290.2.2.2.1)))) else (pleachlaw35_CommitTakes.j1 kj2 a0 bt298.2.2.2.2 true a1_0 l1_1 a1_2 a1_3 bt290.1 bt290.2.1 bt290.2.2.1 bt290.2.2.2.1))))) = some r := by rw [if_neg (show ¬ (false = true) by decide)] at H; exact H
        clear H
        have H := H1
        clear H1
        replace H := Option.bind_eq_some_iff.mp H
        obtain ⟨⟨t290, t291, t294, t295, t296⟩, A120, H⟩ := H
        replace H : ((pleachref35_Take.f a0).bind fun bt298 => ((pleachref35_Same.f t290 t291 t294 t295 bt298.1 bt298.2.1 bt298.2.2.1 bt298.2.2.2.1).bind fun t306 => (if t306 = true then (if ((t296 == 0) != bt298.2.2.2.2) = true then (pleachlaw35_CommitTakes.j1 kj2 a0 bt298.2.2.2.2 true a1_0 l1_1 a1_2 a1_3 t290 t291 t294 t295) else (if bt298.2.2.2.2 = true then ((commit_Is.f a0).bind fun t307 => (if a0.toList = ([] : List UInt8) then (pleachlaw35_CommitTakes.j1 kj2 a0 bt298.2.2.2.2 (t307 != false) a1_0 l1_1 a1_2 a1_3 t290 t291 t294 t295) else (if 0 < (a0.size : Int) then (pleachlaw35_CommitTakes.j1 kj2 a0 bt298.2.2.2.2 (t307 != ((bt a0 0) == 67)) a1_0 l1_1 a1_2 a1_3 t290 t291 t294 t295) else (none)))) else (if t296 = 3 then ((commit_Is.f a0).bind fun t308 => (if a0.toList = ([] : List UInt8) then (pleachlaw35_CommitTakes.j1 kj2 a0 bt298.2.2.2.2 (t308 != false) a1_0 l1_1 a1_2 a1_3 t290 t291 t294 t295) else (if 0 < (a0.size : Int) then (pleachlaw35_CommitTakes.j1 kj2 a0 bt298.2.2.2.2 (t308 != ((bt a0 0) == 67)) a1_0 l1_1 a1_2 a1_3 t290 t291 t294 t295) else (none)))) else (pleachlaw35_CommitTakes.j1 kj2 a0 bt298.2.2.2.2 true a1_0 l1_1 a1_2 a1_3 t290 t291 t294 t295)))) else (pleachlaw35_CommitTakes.j1 kj2 a0 bt298.2.2.2.2 true a1_0 l1_1 a1_2 a1_3 t290 t291 t294 t295)))) = some r := H
        have A12 := Aside0.mk A120
        clear A120
        replace H := Option.bind_eq_some_iff.mp H
        obtain ⟨⟨t298, t299, t302, t303, t304⟩, A130, H⟩ := H
        replace H : ((pleachref35_Same.f t290 t291 t294 t295 t298 t299 t302 t303).bind fun t306 => (if t306 = true then (if ((t296 == 0) != t304) = true then (pleachlaw35_CommitTakes.j1 kj2 a0 t304 true a1_0 l1_1 a1_2 a1_3 t290 t291 t294 t295) else (if t304 = true then ((commit_Is.f a0).bind fun t307 => (if a0.toList = ([] : List UInt8) then (pleachlaw35_CommitTakes.j1 kj2 a0 t304 (t307 != false) a1_0 l1_1 a1_2 a1_3 t290 t291 t294 t295) else (if 0 < (a0.size : Int) then (pleachlaw35_CommitTakes.j1 kj2 a0 t304 (t307 != ((bt a0 0) == 67)) a1_0 l1_1 a1_2 a1_3 t290 t291 t294 t295) else (none)))) else (if t296 = 3 then ((commit_Is.f a0).bind fun t308 => (if a0.toList = ([] : List UInt8) then (pleachlaw35_CommitTakes.j1 kj2 a0 t304 (t308 != false) a1_0 l1_1 a1_2 a1_3 t290 t291 t294 t295) else (if 0 < (a0.size : Int) then (pleachlaw35_CommitTakes.j1 kj2 a0 t304 (t308 != ((bt a0 0) == 67)) a1_0 l1_1 a1_2 a1_3 t290 t291 t294 t295) else (none)))) else (pleachlaw35_CommitTakes.j1 kj2 a0 t304 true a1_0 l1_1 a1_2 a1_3 t290 t291 t294 t295)))) else (pleachlaw35_CommitTakes.j1 kj2 a0 t304 true a1_0 l1_1 a1_2 a1_3 t290 t291 t294 t295))) = some r := H
        have A13 := Aside0.mk A130
        clear A130
        have HC14 := Aside0.mk H
        clear H
        go_upto_region 5 with (first | ((with_reducible refine gate_callee (f := 9) rfl ?_); refine M.goes (some 26) Tryd.func9 #[.string a0] rfl ?_; (with_reducible refine (commit_Take.calls a0 t290 t291 t294 t295 t296 _ A12.out).mono ?_); rintro e w15 ⟨v292, rfl, ho0, hb⟩; refine ⟨_, rfl, ?_⟩; have n0_ := Aside0.mk (Kd.R_lower ho0 (below_size (M.up HB))); have n1_ := M.bkB zaj hb; have n2_ := M.upS HB hb; clear zaj HB; have HO293 := n0_; have zaj := n1_; have HB := n2_; clear n0_ n1_ n2_; (try clear hb); (try clear ho0)) | ((with_reducible refine gate_dst (N := 5) rfl ?_); refine box_event ?hg (N := 5) ?hd (cs := #[.int .i64 0, .slice none 0 0, .string (⟨#[]⟩ : ByteArray), .string (⟨#[]⟩ : ByteArray)]) (t := 24) ?hr ?_; (case hd => rfl); (case hg => rfl); (case hr => first | (go_simp; done) | (go_simp; rfl)); intro zau hg w16 hbox hb; have n0_ := M.roB HO293 hb; have n1_ := M.bkB zaj hb; have n2_ := M.upS HB hb; have n3_ := Aside0.mk (hbox); have n4_ := M.upG HB hg; have n5_ := M.upG HB hg; have n6_ := M.bkL zaj hg; have n7_ := M.bkG zaj hg; clear HO293 zaj HB; have HO293 := n0_; have zaj := n1_; have HB := n2_; have zav := n3_; have zaw := n4_; have zax := n5_; have zay := n6_; have zaz := n7_; clear n0_ n1_ n2_ n3_ n4_ n5_ n6_ n7_; clear hb hbox hg; have zaA := zaz.out; have zaB := zay.out; have zaC : w16.cell? ⟨zau, 0, none⟩ = some (.int .i64 0) := (blk_cell zav.out 0).trans rfl; have zaD : w16.cell? ⟨zau, 1, none⟩ = some (.slice none 0 0) := (blk_cell zav.out 1).trans rfl; have zaE : w16.cell? ⟨zau, 2, none⟩ = some (.string (⟨#[]⟩ : ByteArray)) := (blk_cell zav.out 2).trans rfl; have zaF : w16.cell? ⟨zau, 3, none⟩ = some (.string (⟨#[]⟩ : ByteArray)) := (blk_cell zav.out 3).trans rfl; have zaG := blk_frozen zav.out 0; have zaH := blk_frozen zav.out 1; have zaI := blk_frozen zav.out 2; have zaJ := blk_frozen zav.out 3; obtain ⟨Ao19, co19, eo19⟩ := Kd.R_slice HO293.out; subst eo19) | ((with_reducible refine gate_callee (f := 10) rfl ?_); refine M.goes (some 31) Tryd.func10 #[.string a0] rfl ?_; (with_reducible refine (pleachref35_Take.calls a0 t298 t299 t302 t303 t304 _ A13.out).mono ?_); rintro e w20 ⟨v300, rfl, ho0, hb⟩; refine ⟨_, rfl, ?_⟩; have n0_ := Aside0.mk (Kd.R_elder' (by (with_reducible repeat (first | apply Kd.R_alloc | apply Kd.R_drewN | apply Kd.R_drew)); exact (Kd.R_mono (Kd.R_far (p := ⟨zau, 3, none⟩) (Kd.R_far (p := ⟨zau, 2, none⟩) (Kd.R_far (p := ⟨zau, 1, none⟩) (Kd.R_far (p := ⟨zau, 0, none⟩) (Kd.R_types HO293.out zav.out (by decide)) (fun _ hk => hk.2) (.int .i64 t290)) (fun _ hk => hk.2) (.slice Ao19 t291.length co19)) (fun _ hk => hk.2) (.string t294)) (fun _ hk => hk.2) (.string t295)) (fun _ h_ => h_.1))) (Kd.R_base ho0) hb); have n1_ := Aside0.mk (Kd.R_lower (Kd.R_new' ho0 (Kd.R_lt (by (with_reducible repeat (first | apply Kd.R_alloc | apply Kd.R_drewN | apply Kd.R_drew)); exact (Kd.R_mono (Kd.R_far (p := ⟨zau, 3, none⟩) (Kd.R_far (p := ⟨zau, 2, none⟩) (Kd.R_far (p := ⟨zau, 1, none⟩) (Kd.R_far (p := ⟨zau, 0, none⟩) (Kd.R_types HO293.out zav.out (by decide)) (fun _ hk => hk.2) (.int .i64 t290)) (fun _ hk => hk.2) (.slice Ao19 t291.length co19)) (fun _ hk => hk.2) (.string t294)) (fun _ hk => hk.2) (.string t295)) (fun _ h_ => h_.1))))) (below_size (M.up HB))); have n2_ := Aside0.mk (blk_below (g := zai) (o := .cells #[.int .i64 a1_0, .slice A1_1 l1_1.length c1_1, .string a1_2, .string a1_3] 24 (0, 0)) (by (with_reducible repeat (first | refine blk_drewN ?_ _ | refine blk_drew ?_ | refine blk_alloc ?_ _)); refine blk_far ?_ zay.out _; (with_reducible repeat (first | refine blk_drewN ?_ _ | refine blk_drew ?_ | refine blk_alloc ?_ _)); refine blk_far ?_ zay.out _; (with_reducible repeat (first | refine blk_drewN ?_ _ | refine blk_drew ?_ | refine blk_alloc ?_ _)); refine blk_far ?_ zay.out _; (with_reducible repeat (first | refine blk_drewN ?_ _ | refine blk_drew ?_ | refine blk_alloc ?_ _)); refine blk_far ?_ zay.out _; (with_reducible repeat (first | refine blk_drewN ?_ _ | refine blk_drew ?_ | refine blk_alloc ?_ _)); exact zaj.out) hb); have n3_ := Aside0.mk (blk_below (g := zau) (o := .cells #[.int .i64 t290, .slice Ao19 t291.length co19, .string t294, .string t295] 24 (0, 0)) (by (with_reducible repeat (first | refine blk_drewN ?_ _ | refine blk_drew ?_ | refine blk_alloc ?_ _)); refine blk_put (cs := #[.int .i64 t290, .slice Ao19 t291.length co19, .string t294, .string (⟨#[]⟩ : ByteArray)]) ?_ 3 _ rfl; (with_reducible repeat (first | refine blk_drewN ?_ _ | refine blk_drew ?_ | refine blk_alloc ?_ _)); refine blk_put (cs := #[.int .i64 t290, .slice Ao19 t291.length co19, .string (⟨#[]⟩ : ByteArray), .string (⟨#[]⟩ : ByteArray)]) ?_ 2 _ rfl; (with_reducible repeat (first | refine blk_drewN ?_ _ | refine blk_drew ?_ | refine blk_alloc ?_ _)); refine blk_put (cs := #[.int .i64 t290, .slice none 0 0, .string (⟨#[]⟩ : ByteArray), .string (⟨#[]⟩ : ByteArray)]) ?_ 1 _ rfl; (with_reducible repeat (first | refine blk_drewN ?_ _ | refine blk_drew ?_ | refine blk_alloc ?_ _)); refine blk_put (cs := #[.int .i64 0, .slice none 0 0, .string (⟨#[]⟩ : ByteArray), .string (⟨#[]⟩ : ByteArray)]) ?_ 0 _ rfl; (with_reducible repeat (first | refine blk_drewN ?_ _ | refine blk_drew ?_ | refine blk_alloc ?_ _)); exact zav.out) hb); have n4_ := M.upS HB hb; clear HO293 zaj zav HB; have HO293 := n0_; have HO301 := n1_; have zaj := n2_; have zav := n3_; have HB := n4_; clear n0_ n1_ n2_ n3_ n4_; (try clear hb); (try clear ho0)) | ((with_reducible refine gate_dst (N := 7) rfl ?_); refine box_event ?hg (N := 7) ?hd (cs := #[.int .i64 0, .slice none 0 0, .string (⟨#[]⟩ : ByteArray), .string (⟨#[]⟩ : ByteArray)]) (t := 24) ?hr ?_; (case hd => rfl); (case hg => rfl); (case hr => first | (go_simp; done) | (go_simp; rfl)); intro zaK hg w21 hbox hb; have n0_ := M.roB HO293 hb; have n1_ := M.roB HO301 hb; have n2_ := M.bkB zaj hb; have n3_ := M.bkB zav hb; have n4_ := M.upS HB hb; have n5_ := Aside0.mk (hbox); have n6_ := M.upG HB hg; have n7_ := M.upG HB hg; have n8_ := M.bkL zaj hg; have n9_ := M.bkG zaj hg; have n10_ := M.bkL zav hg; have n11_ := M.bkG zav hg; clear HO293 HO301 zaj zav HB; have HO293 := n0_; have HO301 := n1_; have zaj := n2_; have zav := n3_; have HB := n4_; have zaL := n5_; have zaM := n6_; have zaN := n7_; have zaO := n8_; have zaP := n9_; have zaQ := n10_; have zaR := n11_; clear n0_ n1_ n2_ n3_ n4_ n5_ n6_ n7_ n8_ n9_ n10_ n11_; clear hb hbox hg; have zaS := zaP.out; have zaT := zaO.out; have zaU := zaR.out; have zaV := zaQ.out; have zaW : w21.cell? ⟨zaK, 0, none⟩ = some (.int .i64 0) := (blk_cell zaL.out 0).trans rfl; have zaX : w21.cell? ⟨zaK, 1, none⟩ = some (.slice none 0 0) := (blk_cell zaL.out 1).trans rfl; have zaY : w21.cell? ⟨zaK, 2, none⟩ = some (.string (⟨#[]⟩ : ByteArray)) := (blk_cell zaL.out 2).trans rfl; have zaZ : w21.cell? ⟨zaK, 3, none⟩ = some (.string (⟨#[]⟩ : ByteArray)) := (blk_cell zaL.out 3).trans rfl; have za0 := blk_frozen zaL.out 0; have za1 := blk_frozen zaL.out 1; have za2 := blk_frozen zaL.out 2; have za3 := blk_frozen zaL.out 3; obtain ⟨Ao25, co25, eo25⟩ := Kd.R_slice HO301.out; subst eo25))
        (try simp only [Act.put, List.setIfInBounds_toArray, List.set_cons_zero, List.set_cons_succ])
        go_cut [63] (fun v63 wc => ∃ (kq : Nat) (x63_13 : Bool), v63 = .bool x63_13 ∧ Aside0 (pleachlaw35_CommitTakes.j1 kq a0 t304 x63_13 a1_0 l1_1 a1_2 a1_3 t290 t291 t294 t295 = some r) ∧ Aside0 (kq ≤ kj2) ∧ Aside0 (Kd.R Kd.string 9 wc w.heap.size (fun k_ => some k_ ≠ ((.slice Ao25 t299.length co25) : Value).ownBlock) (.slice Ao19 t291.length co19) t291) ∧ Aside0 (Kd.R Kd.string 9 wc w.heap.size (fun k_ => some k_ ≠ ((.slice Ao19 t291.length co19) : Value).ownBlock) (.slice Ao25 t299.length co25) t299) ∧ Aside0 (wc.heap[zai]? = some (.cells #[.int .i64 a1_0, (.slice A1_1 l1_1.length c1_1), .string a1_2, .string a1_3] 24 (0, 0))) ∧ Aside0 (wc.heap[zau]? = some (.cells #[.int .i64 t290, (.slice Ao19 t291.length co19), .string t294, .string t295] 24 (0, 0))) ∧ Aside0 (wc.heap[zaK]? = some (.cells #[.int .i64 t298, (.slice Ao25 t299.length co25), .string t302, .string t303] 24 (0, 0))) ∧ Aside0 (Below w.heap.size w wc))
        case first =>
          have H := HC14.out
          clear HC14
          replace H := Option.bind_eq_some_iff.mp H
          obtain ⟨t306, A260, H⟩ := H
          replace H : (if t306 = true then (if ((t296 == 0) != t304) = true then (pleachlaw35_CommitTakes.j1 kj2 a0 t304 true a1_0 l1_1 a1_2 a1_3 t290 t291 t294 t295) else (if t304 = true then ((commit_Is.f a0).bind fun t307 => (if a0.toList = ([] : List UInt8) then (pleachlaw35_CommitTakes.j1 kj2 a0 t304 (t307 != false) a1_0 l1_1 a1_2 a1_3 t290 t291 t294 t295) else (if 0 < (a0.size : Int) then (pleachlaw35_CommitTakes.j1 kj2 a0 t304 (t307 != ((bt a0 0) == 67)) a1_0 l1_1 a1_2 a1_3 t290 t291 t294 t295) else (none)))) else (if t296 = 3 then ((commit_Is.f a0).bind fun t308 => (if a0.toList = ([] : List UInt8) then (pleachlaw35_CommitTakes.j1 kj2 a0 t304 (t308 != false) a1_0 l1_1 a1_2 a1_3 t290 t291 t294 t295) else (if 0 < (a0.size : Int) then (pleachlaw35_CommitTakes.j1 kj2 a0 t304 (t308 != ((bt a0 0) == 67)) a1_0 l1_1 a1_2 a1_3 t290 t291 t294 t295) else (none)))) else (pleachlaw35_CommitTakes.j1 kj2 a0 t304 true a1_0 l1_1 a1_2 a1_3 t290 t291 t294 t295)))) else (pleachlaw35_CommitTakes.j1 kj2 a0 t304 true a1_0 l1_1 a1_2 a1_3 t290 t291 t294 t295)) = some r := H
          have A26 := Aside0.mk A260
          clear A260
          by_cases c27 : t306 = true
          · subst c27
            have H1 : (if ((t296 == 0) != t304) = true then (pleachlaw35_CommitTakes.j1 kj2 a0 t304 true a1_0 l1_1 a1_2 a1_3 t290 t291 t294 t295) else (if t304 = true then ((commit_Is.f a0).bind fun t307 => (if a0.toList = ([] : List UInt8) then (pleachlaw35_CommitTakes.j1 kj2 a0 t304 (t307 != false) a1_0 l1_1 a1_2 a1_3 t290 t291 t294 t295) else (if 0 < (a0.size : Int) then (pleachlaw35_CommitTakes.j1 kj2 a0 t304 (t307 != ((bt a0 0) == 67)) a1_0 l1_1 a1_2 a1_3 t290 t291 t294 t295) else (none)))) else (if t296 = 3 then ((commit_Is.f a0).bind fun t308 => (if a0.toList = ([] : List UInt8) then (pleachlaw35_CommitTakes.j1 kj2 a0 t304 (t308 != false) a1_0 l1_1 a1_2 a1_3 t290 t291 t294 t295) else (if 0 < (a0.size : Int) then (pleachlaw35_CommitTakes.j1 kj2 a0 t304 (t308 != ((bt a0 0) == 67)) a1_0 l1_1 a1_2 a1_3 t290 t291 t294 t295) else (none)))) else (pleachlaw35_CommitTakes.j1 kj2 a0 t304 true a1_0 l1_1 a1_2 a1_3 t290 t291 t294 t295)))) = some r := by rw [if_pos rfl] at H; exact H
            clear H
            have H := H1
            clear H1
            by_cases c28 : ((t296 == 0) != t304) = true
            · rw [if_pos c28] at H
              have c28b0 : ((t296 == 0) != t304) = true := c28
              (try (have c28b1 : decide ((t296 == 0) = t304) = false := by simpa using c28))
              (try (have c28b2 : ((t296 == 0) == t304) = false := by simpa using c28))
              (try (have c28b3 : ¬ ((t296 == 0) = t304) := by simpa using c28))
              clear c28
              (first | rw [c28b0] | (simp only [i64_w, i32_w]; rw [c28b0]) | skip)
              have H' := Aside0.mk H
              clear H
              have za4 := zaz.out
              have za5 := zay.out
              have za6 := zaQ.out
              have za7 := zaR.out
              have za8 : w21.cell? ⟨zau, 0, none⟩ = some (.int .i64 t290) := (blk_cell zav.out 0).trans rfl
              have za9 : w21.cell? ⟨zau, 1, none⟩ = some (.slice Ao19 t291.length co19) := (blk_cell zav.out 1).trans rfl
              have zba : w21.cell? ⟨zau, 2, none⟩ = some (.string t294) := (blk_cell zav.out 2).trans rfl
              have zbb : w21.cell? ⟨zau, 3, none⟩ = some (.string t295) := (blk_cell zav.out 3).trans rfl
              have zbc := blk_frozen zav.out 0
              have zbd := blk_frozen zav.out 1
              have zbe := blk_frozen zav.out 2
              have zbf := blk_frozen zav.out 3
              have zbg := zaP.out
              have zbh := zaO.out
              have zbi : w21.cell? ⟨zaK, 0, none⟩ = some (.int .i64 0) := (blk_cell zaL.out 0).trans rfl
              have zbj : w21.cell? ⟨zaK, 1, none⟩ = some (.slice none 0 0) := (blk_cell zaL.out 1).trans rfl
              have zbk : w21.cell? ⟨zaK, 2, none⟩ = some (.string (⟨#[]⟩ : ByteArray)) := (blk_cell zaL.out 2).trans rfl
              have zbl : w21.cell? ⟨zaK, 3, none⟩ = some (.string (⟨#[]⟩ : ByteArray)) := (blk_cell zaL.out 3).trans rfl
              have zbm := blk_frozen zaL.out 0
              have zbn := blk_frozen zaL.out 1
              have zbo := blk_frozen zaL.out 2
              have zbp := blk_frozen zaL.out 3
              go_wp2_with (first | ((with_reducible refine gate_callee (f := 11) rfl ?_); refine M.goes (some 36) Tryd.func11 #[.agg #[.int .i64 t290, .slice Ao19 t291.length co19, .string t294, .string t295], .agg #[.int .i64 t298, .slice Ao25 t299.length co25, .string t302, .string t303]] rfl ?_; (with_reducible refine (pleachref35_Same.calls t290 _ _ t291 t294 t295 t298 _ _ t299 t302 t303 true _ ?side1 ?side2 ?side3 ?side4 A26.out).mono ?_); (case side1 => refine (Kd.R_reads' (e := 9) (base := w.heap.size) (ok := fun k_ => (True ∧ some k_ ≠ (.slice Ao25 t299.length co25 : Value).ownBlock)) (n := t291.length) (c := co19) ?_).2.2; exact (by (with_reducible repeat (first | apply Kd.R_alloc | apply Kd.R_drewN | apply Kd.R_drew)); exact (Kd.R_mono (Kd.R_far (p := ⟨zaK, 3, none⟩) (Kd.R_far (p := ⟨zaK, 2, none⟩) (Kd.R_far (p := ⟨zaK, 1, none⟩) (Kd.R_far (p := ⟨zaK, 0, none⟩) (Kd.R_types HO293.out zaL.out (by decide)) (fun _ hk => hk.2) (.int .i64 t298)) (fun _ hk => hk.2) (.slice Ao25 t299.length co25)) (fun _ hk => hk.2) (.string t302)) (fun _ hk => hk.2) (.string t303)) (fun _ h_ => h_.1)))); (case side2 => exact (Kd.R_reads' HO293.out).2.1); (case side3 => refine (Kd.R_reads' (e := 9) (base := w.heap.size) (ok := fun k_ => (True ∧ some k_ ≠ (.slice Ao19 t291.length co19 : Value).ownBlock)) (n := t299.length) (c := co25) ?_).2.2; exact (by (with_reducible repeat (first | apply Kd.R_alloc | apply Kd.R_drewN | apply Kd.R_drew)); exact (Kd.R_mono (Kd.R_far (p := ⟨zaK, 3, none⟩) (Kd.R_far (p := ⟨zaK, 2, none⟩) (Kd.R_far (p := ⟨zaK, 1, none⟩) (Kd.R_far (p := ⟨zaK, 0, none⟩) (Kd.R_types HO301.out zaL.out (by decide)) (fun _ hk => hk.2) (.int .i64 t298)) (fun _ hk => hk.2) (.slice Ao25 t299.length co25)) (fun _ hk => hk.2) (.string t302)) (fun _ hk => hk.2) (.string t303)) (fun _ h_ => h_.1)))); (case side4 => exact (Kd.R_reads' HO301.out).2.1); rintro e w34 ⟨rfl, hb⟩; refine ⟨_, rfl, ?_⟩; have n0_ := Aside0.mk (Kd.R_below (by (with_reducible repeat (first | apply Kd.R_alloc | apply Kd.R_drewN | apply Kd.R_drew)); exact (Kd.R_mono (Kd.R_far (p := ⟨zaK, 3, none⟩) (Kd.R_far (p := ⟨zaK, 2, none⟩) (Kd.R_far (p := ⟨zaK, 1, none⟩) (Kd.R_far (p := ⟨zaK, 0, none⟩) (Kd.R_types HO293.out zaL.out (by decide)) (fun _ hk => hk.2) (.int .i64 t298)) (fun _ hk => hk.2) (.slice Ao25 t299.length co25)) (fun _ hk => hk.2) (.string t302)) (fun _ hk => hk.2) (.string t303)) (fun _ h_ => h_.1))) hb); have n1_ := Aside0.mk (Kd.R_below (by (with_reducible repeat (first | apply Kd.R_alloc | apply Kd.R_drewN | apply Kd.R_drew)); exact (Kd.R_mono (Kd.R_far (p := ⟨zaK, 3, none⟩) (Kd.R_far (p := ⟨zaK, 2, none⟩) (Kd.R_far (p := ⟨zaK, 1, none⟩) (Kd.R_far (p := ⟨zaK, 0, none⟩) (Kd.R_types HO301.out zaL.out (by decide)) (fun _ hk => hk.2) (.int .i64 t298)) (fun _ hk => hk.2) (.slice Ao25 t299.length co25)) (fun _ hk => hk.2) (.string t302)) (fun _ hk => hk.2) (.string t303)) (fun _ h_ => h_.1))) hb); have n2_ := Aside0.mk (blk_below (g := zai) (o := .cells #[.int .i64 a1_0, .slice A1_1 l1_1.length c1_1, .string a1_2, .string a1_3] 24 (0, 0)) (by (with_reducible repeat (first | refine blk_drewN ?_ _ | refine blk_drew ?_ | refine blk_alloc ?_ _)); refine blk_far ?_ zaO.out _; (with_reducible repeat (first | refine blk_drewN ?_ _ | refine blk_drew ?_ | refine blk_alloc ?_ _)); refine blk_far ?_ zaO.out _; (with_reducible repeat (first | refine blk_drewN ?_ _ | refine blk_drew ?_ | refine blk_alloc ?_ _)); refine blk_far ?_ zaO.out _; (with_reducible repeat (first | refine blk_drewN ?_ _ | refine blk_drew ?_ | refine blk_alloc ?_ _)); refine blk_far ?_ zaO.out _; (with_reducible repeat (first | refine blk_drewN ?_ _ | refine blk_drew ?_ | refine blk_alloc ?_ _)); exact zaj.out) hb); have n3_ := Aside0.mk (blk_below (g := zau) (o := .cells #[.int .i64 t290, .slice Ao19 t291.length co19, .string t294, .string t295] 24 (0, 0)) (by (with_reducible repeat (first | refine blk_drewN ?_ _ | refine blk_drew ?_ | refine blk_alloc ?_ _)); refine blk_far ?_ zaQ.out _; (with_reducible repeat (first | refine blk_drewN ?_ _ | refine blk_drew ?_ | refine blk_alloc ?_ _)); refine blk_far ?_ zaQ.out _; (with_reducible repeat (first | refine blk_drewN ?_ _ | refine blk_drew ?_ | refine blk_alloc ?_ _)); refine blk_far ?_ zaQ.out _; (with_reducible repeat (first | refine blk_drewN ?_ _ | refine blk_drew ?_ | refine blk_alloc ?_ _)); refine blk_far ?_ zaQ.out _; (with_reducible repeat (first | refine blk_drewN ?_ _ | refine blk_drew ?_ | refine blk_alloc ?_ _)); exact zav.out) hb); have n4_ := Aside0.mk (blk_below (g := zaK) (o := .cells #[.int .i64 t298, .slice Ao25 t299.length co25, .string t302, .string t303] 24 (0, 0)) (by (with_reducible repeat (first | refine blk_drewN ?_ _ | refine blk_drew ?_ | refine blk_alloc ?_ _)); refine blk_put (cs := #[.int .i64 t298, .slice Ao25 t299.length co25, .string t302, .string (⟨#[]⟩ : ByteArray)]) ?_ 3 _ rfl; (with_reducible repeat (first | refine blk_drewN ?_ _ | refine blk_drew ?_ | refine blk_alloc ?_ _)); refine blk_put (cs := #[.int .i64 t298, .slice Ao25 t299.length co25, .string (⟨#[]⟩ : ByteArray), .string (⟨#[]⟩ : ByteArray)]) ?_ 2 _ rfl; (with_reducible repeat (first | refine blk_drewN ?_ _ | refine blk_drew ?_ | refine blk_alloc ?_ _)); refine blk_put (cs := #[.int .i64 t298, .slice none 0 0, .string (⟨#[]⟩ : ByteArray), .string (⟨#[]⟩ : ByteArray)]) ?_ 1 _ rfl; (with_reducible repeat (first | refine blk_drewN ?_ _ | refine blk_drew ?_ | refine blk_alloc ?_ _)); refine blk_put (cs := #[.int .i64 0, .slice none 0 0, .string (⟨#[]⟩ : ByteArray), .string (⟨#[]⟩ : ByteArray)]) ?_ 0 _ rfl; (with_reducible repeat (first | refine blk_drewN ?_ _ | refine blk_drew ?_ | refine blk_alloc ?_ _)); exact zaL.out) hb); have n5_ := M.upS HB hb; clear HO293 HO301 zaj zav zaL HB; have HO293 := n0_; have HO301 := n1_; have zaj := n2_; have zav := n3_; have zaL := n4_; have HB := n5_; clear n0_ n1_ n2_ n3_ n4_ n5_; (try clear hb)))
              go_meet
              case rel => exact ⟨_, (true), (by first | rfl | (simp; done) | (simp [*]; done) | (simp [M.isEmpty_bne]; done)), H', ⟨by have := HJ2.out; first | omega | exact Nat.le_refl _⟩, ⟨by (with_reducible repeat (first | apply Kd.R_alloc | apply Kd.R_drewN | apply Kd.R_drew)); exact Kd.R_mono HO293.out (fun _ hk => hk.2)⟩, ⟨by (with_reducible repeat (first | apply Kd.R_alloc | apply Kd.R_drewN | apply Kd.R_drew)); exact Kd.R_mono HO301.out (fun _ hk => hk.2)⟩, ⟨by (with_reducible repeat (first | refine blk_drewN ?_ _ | refine blk_drew ?_ | refine blk_alloc ?_ _)); exact zaj.out⟩, ⟨by (with_reducible repeat (first | refine blk_drewN ?_ _ | refine blk_drew ?_ | refine blk_alloc ?_ _)); exact zav.out⟩, ⟨by (with_reducible repeat (first | refine blk_drewN ?_ _ | refine blk_drew ?_ | refine blk_alloc ?_ _)); exact zaL.out⟩, ⟨M.up HB⟩⟩
            · rw [if_neg c28] at H
              have c28b0 : ((t296 == 0) != t304) = false := by simpa using c28
              (try (have c28b1 : decide ((t296 == 0) = t304) = true := by simpa using c28))
              (try (have c28b2 : ((t296 == 0) == t304) = true := by simpa using c28))
              clear c28
              (first | rw [c28b0] | (simp only [i64_w, i32_w]; rw [c28b0]) | skip)
              by_cases c35 : t304 = true
              · subst c35
                have H1 : ((commit_Is.f a0).bind fun t307 => (if a0.toList = ([] : List UInt8) then (pleachlaw35_CommitTakes.j1 kj2 a0 true (t307 != false) a1_0 l1_1 a1_2 a1_3 t290 t291 t294 t295) else (if 0 < (a0.size : Int) then (pleachlaw35_CommitTakes.j1 kj2 a0 true (t307 != ((bt a0 0) == 67)) a1_0 l1_1 a1_2 a1_3 t290 t291 t294 t295) else (none)))) = some r := by rw [if_pos rfl] at H; exact H
                clear H
                have H := H1
                clear H1
                replace H := Option.bind_eq_some_iff.mp H
                obtain ⟨t307, A360, H⟩ := H
                replace H : (if a0.toList = ([] : List UInt8) then (pleachlaw35_CommitTakes.j1 kj2 a0 true (t307 != false) a1_0 l1_1 a1_2 a1_3 t290 t291 t294 t295) else (if 0 < (a0.size : Int) then (pleachlaw35_CommitTakes.j1 kj2 a0 true (t307 != ((bt a0 0) == 67)) a1_0 l1_1 a1_2 a1_3 t290 t291 t294 t295) else (none))) = some r := H
                have A36 := Aside0.mk A360
                clear A360
                by_cases c37 : a0.toList = ([] : List UInt8)
                · rw [if_pos c37] at H
                  have c37b0 : (a0.toList == ([] : List UInt8)) = true := beq_iff_eq.mpr c37
                  have c37b1 : (a0.toList != ([] : List UInt8)) = false := bne_eq_false_iff_eq.mpr c37
                  clear c37
                  have H' := Aside0.mk H
                  clear H
                  have zbq := zaz.out
                  have zbr := zay.out
                  have zbs := zaQ.out
                  have zbt := zaR.out
                  have zbu : w21.cell? ⟨zau, 0, none⟩ = some (.int .i64 t290) := (blk_cell zav.out 0).trans rfl
                  have zbv : w21.cell? ⟨zau, 1, none⟩ = some (.slice Ao19 t291.length co19) := (blk_cell zav.out 1).trans rfl
                  have zbw : w21.cell? ⟨zau, 2, none⟩ = some (.string t294) := (blk_cell zav.out 2).trans rfl
                  have zbx : w21.cell? ⟨zau, 3, none⟩ = some (.string t295) := (blk_cell zav.out 3).trans rfl
                  have zby := blk_frozen zav.out 0
                  have zbz := blk_frozen zav.out 1
                  have zbA := blk_frozen zav.out 2
                  have zbB := blk_frozen zav.out 3
                  have zbC := zaP.out
                  have zbD := zaO.out
                  have zbE : w21.cell? ⟨zaK, 0, none⟩ = some (.int .i64 0) := (blk_cell zaL.out 0).trans rfl
                  have zbF : w21.cell? ⟨zaK, 1, none⟩ = some (.slice none 0 0) := (blk_cell zaL.out 1).trans rfl
                  have zbG : w21.cell? ⟨zaK, 2, none⟩ = some (.string (⟨#[]⟩ : ByteArray)) := (blk_cell zaL.out 2).trans rfl
                  have zbH : w21.cell? ⟨zaK, 3, none⟩ = some (.string (⟨#[]⟩ : ByteArray)) := (blk_cell zaL.out 3).trans rfl
                  have zbI := blk_frozen zaL.out 0
                  have zbJ := blk_frozen zaL.out 1
                  have zbK := blk_frozen zaL.out 2
                  have zbL := blk_frozen zaL.out 3
                  go_wp2_with (first | ((with_reducible refine gate_callee (f := 11) rfl ?_); refine M.goes (some 36) Tryd.func11 #[.agg #[.int .i64 t290, .slice Ao19 t291.length co19, .string t294, .string t295], .agg #[.int .i64 t298, .slice Ao25 t299.length co25, .string t302, .string t303]] rfl ?_; (with_reducible refine (pleachref35_Same.calls t290 _ _ t291 t294 t295 t298 _ _ t299 t302 t303 true _ ?side1 ?side2 ?side3 ?side4 A26.out).mono ?_); (case side1 => refine (Kd.R_reads' (e := 9) (base := w.heap.size) (ok := fun k_ => (True ∧ some k_ ≠ (.slice Ao25 t299.length co25 : Value).ownBlock)) (n := t291.length) (c := co19) ?_).2.2; exact (by (with_reducible repeat (first | apply Kd.R_alloc | apply Kd.R_drewN | apply Kd.R_drew)); exact (Kd.R_mono (Kd.R_far (p := ⟨zaK, 3, none⟩) (Kd.R_far (p := ⟨zaK, 2, none⟩) (Kd.R_far (p := ⟨zaK, 1, none⟩) (Kd.R_far (p := ⟨zaK, 0, none⟩) (Kd.R_types HO293.out zaL.out (by decide)) (fun _ hk => hk.2) (.int .i64 t298)) (fun _ hk => hk.2) (.slice Ao25 t299.length co25)) (fun _ hk => hk.2) (.string t302)) (fun _ hk => hk.2) (.string t303)) (fun _ h_ => h_.1)))); (case side2 => exact (Kd.R_reads' HO293.out).2.1); (case side3 => refine (Kd.R_reads' (e := 9) (base := w.heap.size) (ok := fun k_ => (True ∧ some k_ ≠ (.slice Ao19 t291.length co19 : Value).ownBlock)) (n := t299.length) (c := co25) ?_).2.2; exact (by (with_reducible repeat (first | apply Kd.R_alloc | apply Kd.R_drewN | apply Kd.R_drew)); exact (Kd.R_mono (Kd.R_far (p := ⟨zaK, 3, none⟩) (Kd.R_far (p := ⟨zaK, 2, none⟩) (Kd.R_far (p := ⟨zaK, 1, none⟩) (Kd.R_far (p := ⟨zaK, 0, none⟩) (Kd.R_types HO301.out zaL.out (by decide)) (fun _ hk => hk.2) (.int .i64 t298)) (fun _ hk => hk.2) (.slice Ao25 t299.length co25)) (fun _ hk => hk.2) (.string t302)) (fun _ hk => hk.2) (.string t303)) (fun _ h_ => h_.1)))); (case side4 => exact (Kd.R_reads' HO301.out).2.1); rintro e w43 ⟨rfl, hb⟩; refine ⟨_, rfl, ?_⟩; have n0_ := Aside0.mk (Kd.R_below (by (with_reducible repeat (first | apply Kd.R_alloc | apply Kd.R_drewN | apply Kd.R_drew)); exact (Kd.R_mono (Kd.R_far (p := ⟨zaK, 3, none⟩) (Kd.R_far (p := ⟨zaK, 2, none⟩) (Kd.R_far (p := ⟨zaK, 1, none⟩) (Kd.R_far (p := ⟨zaK, 0, none⟩) (Kd.R_types HO293.out zaL.out (by decide)) (fun _ hk => hk.2) (.int .i64 t298)) (fun _ hk => hk.2) (.slice Ao25 t299.length co25)) (fun _ hk => hk.2) (.string t302)) (fun _ hk => hk.2) (.string t303)) (fun _ h_ => h_.1))) hb); have n1_ := Aside0.mk (Kd.R_below (by (with_reducible repeat (first | apply Kd.R_alloc | apply Kd.R_drewN | apply Kd.R_drew)); exact (Kd.R_mono (Kd.R_far (p := ⟨zaK, 3, none⟩) (Kd.R_far (p := ⟨zaK, 2, none⟩) (Kd.R_far (p := ⟨zaK, 1, none⟩) (Kd.R_far (p := ⟨zaK, 0, none⟩) (Kd.R_types HO301.out zaL.out (by decide)) (fun _ hk => hk.2) (.int .i64 t298)) (fun _ hk => hk.2) (.slice Ao25 t299.length co25)) (fun _ hk => hk.2) (.string t302)) (fun _ hk => hk.2) (.string t303)) (fun _ h_ => h_.1))) hb); have n2_ := Aside0.mk (blk_below (g := zai) (o := .cells #[.int .i64 a1_0, .slice A1_1 l1_1.length c1_1, .string a1_2, .string a1_3] 24 (0, 0)) (by (with_reducible repeat (first | refine blk_drewN ?_ _ | refine blk_drew ?_ | refine blk_alloc ?_ _)); refine blk_far ?_ zaO.out _; (with_reducible repeat (first | refine blk_drewN ?_ _ | refine blk_drew ?_ | refine blk_alloc ?_ _)); refine blk_far ?_ zaO.out _; (with_reducible repeat (first | refine blk_drewN ?_ _ | refine blk_drew ?_ | refine blk_alloc ?_ _)); refine blk_far ?_ zaO.out _; (with_reducible repeat (first | refine blk_drewN ?_ _ | refine blk_drew ?_ | refine blk_alloc ?_ _)); refine blk_far ?_ zaO.out _; (with_reducible repeat (first | refine blk_drewN ?_ _ | refine blk_drew ?_ | refine blk_alloc ?_ _)); exact zaj.out) hb); have n3_ := Aside0.mk (blk_below (g := zau) (o := .cells #[.int .i64 t290, .slice Ao19 t291.length co19, .string t294, .string t295] 24 (0, 0)) (by (with_reducible repeat (first | refine blk_drewN ?_ _ | refine blk_drew ?_ | refine blk_alloc ?_ _)); refine blk_far ?_ zaQ.out _; (with_reducible repeat (first | refine blk_drewN ?_ _ | refine blk_drew ?_ | refine blk_alloc ?_ _)); refine blk_far ?_ zaQ.out _; (with_reducible repeat (first | refine blk_drewN ?_ _ | refine blk_drew ?_ | refine blk_alloc ?_ _)); refine blk_far ?_ zaQ.out _; (with_reducible repeat (first | refine blk_drewN ?_ _ | refine blk_drew ?_ | refine blk_alloc ?_ _)); refine blk_far ?_ zaQ.out _; (with_reducible repeat (first | refine blk_drewN ?_ _ | refine blk_drew ?_ | refine blk_alloc ?_ _)); exact zav.out) hb); have n4_ := Aside0.mk (blk_below (g := zaK) (o := .cells #[.int .i64 t298, .slice Ao25 t299.length co25, .string t302, .string t303] 24 (0, 0)) (by (with_reducible repeat (first | refine blk_drewN ?_ _ | refine blk_drew ?_ | refine blk_alloc ?_ _)); refine blk_put (cs := #[.int .i64 t298, .slice Ao25 t299.length co25, .string t302, .string (⟨#[]⟩ : ByteArray)]) ?_ 3 _ rfl; (with_reducible repeat (first | refine blk_drewN ?_ _ | refine blk_drew ?_ | refine blk_alloc ?_ _)); refine blk_put (cs := #[.int .i64 t298, .slice Ao25 t299.length co25, .string (⟨#[]⟩ : ByteArray), .string (⟨#[]⟩ : ByteArray)]) ?_ 2 _ rfl; (with_reducible repeat (first | refine blk_drewN ?_ _ | refine blk_drew ?_ | refine blk_alloc ?_ _)); refine blk_put (cs := #[.int .i64 t298, .slice none 0 0, .string (⟨#[]⟩ : ByteArray), .string (⟨#[]⟩ : ByteArray)]) ?_ 1 _ rfl; (with_reducible repeat (first | refine blk_drewN ?_ _ | refine blk_drew ?_ | refine blk_alloc ?_ _)); refine blk_put (cs := #[.int .i64 0, .slice none 0 0, .string (⟨#[]⟩ : ByteArray), .string (⟨#[]⟩ : ByteArray)]) ?_ 0 _ rfl; (with_reducible repeat (first | refine blk_drewN ?_ _ | refine blk_drew ?_ | refine blk_alloc ?_ _)); exact zaL.out) hb); have n5_ := M.upS HB hb; clear HO293 HO301 zaj zav zaL HB; have HO293 := n0_; have HO301 := n1_; have zaj := n2_; have zav := n3_; have zaL := n4_; have HB := n5_; clear n0_ n1_ n2_ n3_ n4_ n5_; (try clear hb)) | (go_at_call 12; (with_reducible refine (commit_Is.calls a0 t307 _ A36.out).mono ?_); rintro e w' ⟨rfl, ⟨nd, rfl⟩⟩))
                  go_meet
                  case rel => exact ⟨_, ((t307 != false)), (by first | rfl | (simp; done) | (simp [*]; done) | (simp [M.isEmpty_bne]; done)), H', ⟨by have := HJ2.out; first | omega | exact Nat.le_refl _⟩, ⟨by (with_reducible repeat (first | apply Kd.R_alloc | apply Kd.R_drewN | apply Kd.R_drew)); exact Kd.R_mono HO293.out (fun _ hk => hk.2)⟩, ⟨by (with_reducible repeat (first | apply Kd.R_alloc | apply Kd.R_drewN | apply Kd.R_drew)); exact Kd.R_mono HO301.out (fun _ hk => hk.2)⟩, ⟨by (with_reducible repeat (first | refine blk_drewN ?_ _ | refine blk_drew ?_ | refine blk_alloc ?_ _)); exact zaj.out⟩, ⟨by (with_reducible repeat (first | refine blk_drewN ?_ _ | refine blk_drew ?_ | refine blk_alloc ?_ _)); exact zav.out⟩, ⟨by (with_reducible repeat (first | refine blk_drewN ?_ _ | refine blk_drew ?_ | refine blk_alloc ?_ _)); exact zaL.out⟩, ⟨M.up HB⟩⟩
                · rw [if_neg c37] at H
                  have c37b0 : (a0.toList == ([] : List UInt8)) = false := beq_eq_false_iff_ne.mpr c37
                  have c37b1 : (a0.toList != ([] : List UInt8)) = true := bne_iff_ne.mpr c37
                  by_cases c44 : 0 < (a0.size : Int)
                  · rw [if_pos c44] at H
                    have c44b0 : decide (0 < (a0.size : Int)) = true := decide_eq_true c44
                    have c44b1 : decide (0 < a0.size) = true := decide_eq_true (by omega)
                    clear c44
                    have H' := Aside0.mk H
                    clear H
                    have zbM := zaz.out
                    have zbN := zay.out
                    have zbO := zaQ.out
                    have zbP := zaR.out
                    have zbQ : w21.cell? ⟨zau, 0, none⟩ = some (.int .i64 t290) := (blk_cell zav.out 0).trans rfl
                    have zbR : w21.cell? ⟨zau, 1, none⟩ = some (.slice Ao19 t291.length co19) := (blk_cell zav.out 1).trans rfl
                    have zbS : w21.cell? ⟨zau, 2, none⟩ = some (.string t294) := (blk_cell zav.out 2).trans rfl
                    have zbT : w21.cell? ⟨zau, 3, none⟩ = some (.string t295) := (blk_cell zav.out 3).trans rfl
                    have zbU := blk_frozen zav.out 0
                    have zbV := blk_frozen zav.out 1
                    have zbW := blk_frozen zav.out 2
                    have zbX := blk_frozen zav.out 3
                    have zbY := zaP.out
                    have zbZ := zaO.out
                    have zb0 : w21.cell? ⟨zaK, 0, none⟩ = some (.int .i64 0) := (blk_cell zaL.out 0).trans rfl
                    have zb1 : w21.cell? ⟨zaK, 1, none⟩ = some (.slice none 0 0) := (blk_cell zaL.out 1).trans rfl
                    have zb2 : w21.cell? ⟨zaK, 2, none⟩ = some (.string (⟨#[]⟩ : ByteArray)) := (blk_cell zaL.out 2).trans rfl
                    have zb3 : w21.cell? ⟨zaK, 3, none⟩ = some (.string (⟨#[]⟩ : ByteArray)) := (blk_cell zaL.out 3).trans rfl
                    have zb4 := blk_frozen zaL.out 0
                    have zb5 := blk_frozen zaL.out 1
                    have zb6 := blk_frozen zaL.out 2
                    have zb7 := blk_frozen zaL.out 3
                    go_wp2_with (first | ((with_reducible refine gate_callee (f := 11) rfl ?_); refine M.goes (some 36) Tryd.func11 #[.agg #[.int .i64 t290, .slice Ao19 t291.length co19, .string t294, .string t295], .agg #[.int .i64 t298, .slice Ao25 t299.length co25, .string t302, .string t303]] rfl ?_; (with_reducible refine (pleachref35_Same.calls t290 _ _ t291 t294 t295 t298 _ _ t299 t302 t303 true _ ?side1 ?side2 ?side3 ?side4 A26.out).mono ?_); (case side1 => refine (Kd.R_reads' (e := 9) (base := w.heap.size) (ok := fun k_ => (True ∧ some k_ ≠ (.slice Ao25 t299.length co25 : Value).ownBlock)) (n := t291.length) (c := co19) ?_).2.2; exact (by (with_reducible repeat (first | apply Kd.R_alloc | apply Kd.R_drewN | apply Kd.R_drew)); exact (Kd.R_mono (Kd.R_far (p := ⟨zaK, 3, none⟩) (Kd.R_far (p := ⟨zaK, 2, none⟩) (Kd.R_far (p := ⟨zaK, 1, none⟩) (Kd.R_far (p := ⟨zaK, 0, none⟩) (Kd.R_types HO293.out zaL.out (by decide)) (fun _ hk => hk.2) (.int .i64 t298)) (fun _ hk => hk.2) (.slice Ao25 t299.length co25)) (fun _ hk => hk.2) (.string t302)) (fun _ hk => hk.2) (.string t303)) (fun _ h_ => h_.1)))); (case side2 => exact (Kd.R_reads' HO293.out).2.1); (case side3 => refine (Kd.R_reads' (e := 9) (base := w.heap.size) (ok := fun k_ => (True ∧ some k_ ≠ (.slice Ao19 t291.length co19 : Value).ownBlock)) (n := t299.length) (c := co25) ?_).2.2; exact (by (with_reducible repeat (first | apply Kd.R_alloc | apply Kd.R_drewN | apply Kd.R_drew)); exact (Kd.R_mono (Kd.R_far (p := ⟨zaK, 3, none⟩) (Kd.R_far (p := ⟨zaK, 2, none⟩) (Kd.R_far (p := ⟨zaK, 1, none⟩) (Kd.R_far (p := ⟨zaK, 0, none⟩) (Kd.R_types HO301.out zaL.out (by decide)) (fun _ hk => hk.2) (.int .i64 t298)) (fun _ hk => hk.2) (.slice Ao25 t299.length co25)) (fun _ hk => hk.2) (.string t302)) (fun _ hk => hk.2) (.string t303)) (fun _ h_ => h_.1)))); (case side4 => exact (Kd.R_reads' HO301.out).2.1); rintro e w51 ⟨rfl, hb⟩; refine ⟨_, rfl, ?_⟩; have n0_ := Aside0.mk (Kd.R_below (by (with_reducible repeat (first | apply Kd.R_alloc | apply Kd.R_drewN | apply Kd.R_drew)); exact (Kd.R_mono (Kd.R_far (p := ⟨zaK, 3, none⟩) (Kd.R_far (p := ⟨zaK, 2, none⟩) (Kd.R_far (p := ⟨zaK, 1, none⟩) (Kd.R_far (p := ⟨zaK, 0, none⟩) (Kd.R_types HO293.out zaL.out (by decide)) (fun _ hk => hk.2) (.int .i64 t298)) (fun _ hk => hk.2) (.slice Ao25 t299.length co25)) (fun _ hk => hk.2) (.string t302)) (fun _ hk => hk.2) (.string t303)) (fun _ h_ => h_.1))) hb); have n1_ := Aside0.mk (Kd.R_below (by (with_reducible repeat (first | apply Kd.R_alloc | apply Kd.R_drewN | apply Kd.R_drew)); exact (Kd.R_mono (Kd.R_far (p := ⟨zaK, 3, none⟩) (Kd.R_far (p := ⟨zaK, 2, none⟩) (Kd.R_far (p := ⟨zaK, 1, none⟩) (Kd.R_far (p := ⟨zaK, 0, none⟩) (Kd.R_types HO301.out zaL.out (by decide)) (fun _ hk => hk.2) (.int .i64 t298)) (fun _ hk => hk.2) (.slice Ao25 t299.length co25)) (fun _ hk => hk.2) (.string t302)) (fun _ hk => hk.2) (.string t303)) (fun _ h_ => h_.1))) hb); have n2_ := Aside0.mk (blk_below (g := zai) (o := .cells #[.int .i64 a1_0, .slice A1_1 l1_1.length c1_1, .string a1_2, .string a1_3] 24 (0, 0)) (by (with_reducible repeat (first | refine blk_drewN ?_ _ | refine blk_drew ?_ | refine blk_alloc ?_ _)); refine blk_far ?_ zaO.out _; (with_reducible repeat (first | refine blk_drewN ?_ _ | refine blk_drew ?_ | refine blk_alloc ?_ _)); refine blk_far ?_ zaO.out _; (with_reducible repeat (first | refine blk_drewN ?_ _ | refine blk_drew ?_ | refine blk_alloc ?_ _)); refine blk_far ?_ zaO.out _; (with_reducible repeat (first | refine blk_drewN ?_ _ | refine blk_drew ?_ | refine blk_alloc ?_ _)); refine blk_far ?_ zaO.out _; (with_reducible repeat (first | refine blk_drewN ?_ _ | refine blk_drew ?_ | refine blk_alloc ?_ _)); exact zaj.out) hb); have n3_ := Aside0.mk (blk_below (g := zau) (o := .cells #[.int .i64 t290, .slice Ao19 t291.length co19, .string t294, .string t295] 24 (0, 0)) (by (with_reducible repeat (first | refine blk_drewN ?_ _ | refine blk_drew ?_ | refine blk_alloc ?_ _)); refine blk_far ?_ zaQ.out _; (with_reducible repeat (first | refine blk_drewN ?_ _ | refine blk_drew ?_ | refine blk_alloc ?_ _)); refine blk_far ?_ zaQ.out _; (with_reducible repeat (first | refine blk_drewN ?_ _ | refine blk_drew ?_ | refine blk_alloc ?_ _)); refine blk_far ?_ zaQ.out _; (with_reducible repeat (first | refine blk_drewN ?_ _ | refine blk_drew ?_ | refine blk_alloc ?_ _)); refine blk_far ?_ zaQ.out _; (with_reducible repeat (first | refine blk_drewN ?_ _ | refine blk_drew ?_ | refine blk_alloc ?_ _)); exact zav.out) hb); have n4_ := Aside0.mk (blk_below (g := zaK) (o := .cells #[.int .i64 t298, .slice Ao25 t299.length co25, .string t302, .string t303] 24 (0, 0)) (by (with_reducible repeat (first | refine blk_drewN ?_ _ | refine blk_drew ?_ | refine blk_alloc ?_ _)); refine blk_put (cs := #[.int .i64 t298, .slice Ao25 t299.length co25, .string t302, .string (⟨#[]⟩ : ByteArray)]) ?_ 3 _ rfl; (with_reducible repeat (first | refine blk_drewN ?_ _ | refine blk_drew ?_ | refine blk_alloc ?_ _)); refine blk_put (cs := #[.int .i64 t298, .slice Ao25 t299.length co25, .string (⟨#[]⟩ : ByteArray), .string (⟨#[]⟩ : ByteArray)]) ?_ 2 _ rfl; (with_reducible repeat (first | refine blk_drewN ?_ _ | refine blk_drew ?_ | refine blk_alloc ?_ _)); refine blk_put (cs := #[.int .i64 t298, .slice none 0 0, .string (⟨#[]⟩ : ByteArray), .string (⟨#[]⟩ : ByteArray)]) ?_ 1 _ rfl; (with_reducible repeat (first | refine blk_drewN ?_ _ | refine blk_drew ?_ | refine blk_alloc ?_ _)); refine blk_put (cs := #[.int .i64 0, .slice none 0 0, .string (⟨#[]⟩ : ByteArray), .string (⟨#[]⟩ : ByteArray)]) ?_ 0 _ rfl; (with_reducible repeat (first | refine blk_drewN ?_ _ | refine blk_drew ?_ | refine blk_alloc ?_ _)); exact zaL.out) hb); have n5_ := M.upS HB hb; clear HO293 HO301 zaj zav zaL HB; have HO293 := n0_; have HO301 := n1_; have zaj := n2_; have zav := n3_; have zaL := n4_; have HB := n5_; clear n0_ n1_ n2_ n3_ n4_ n5_; (try clear hb)) | (go_at_call 12; (with_reducible refine (commit_Is.calls a0 t307 _ A36.out).mono ?_); rintro e w' ⟨rfl, ⟨nd, rfl⟩⟩; have p45 : 0 ≤ (0 : Int) := (by omega); have q45 : 0 < a0.size := (by have : (0 : Int) < (a0.size : Int) := of_decide_eq_true (by first | (with_reducible assumption) | assumption); omega); have hx45 : ∀ h : 0 < a0.size, ((a0[0]'h).toNat : Int) = bt a0 0 := bt_at a0 0; clear p45; have qi45 : (0 < (a0.size : Int)) = True := eq_true (of_decide_eq_true (by first | (with_reducible assumption) | assumption)); replace q45 := eq_true q45))
                    go_meet
                    case rel => exact ⟨_, ((t307 != ((bt a0 0) == 67))), (by first | rfl | (simp; done) | (simp [*]; done) | (simp [M.isEmpty_bne]; done)), H', ⟨by have := HJ2.out; first | omega | exact Nat.le_refl _⟩, ⟨by (with_reducible repeat (first | apply Kd.R_alloc | apply Kd.R_drewN | apply Kd.R_drew)); exact Kd.R_mono HO293.out (fun _ hk => hk.2)⟩, ⟨by (with_reducible repeat (first | apply Kd.R_alloc | apply Kd.R_drewN | apply Kd.R_drew)); exact Kd.R_mono HO301.out (fun _ hk => hk.2)⟩, ⟨by (with_reducible repeat (first | refine blk_drewN ?_ _ | refine blk_drew ?_ | refine blk_alloc ?_ _)); exact zaj.out⟩, ⟨by (with_reducible repeat (first | refine blk_drewN ?_ _ | refine blk_drew ?_ | refine blk_alloc ?_ _)); exact zav.out⟩, ⟨by (with_reducible repeat (first | refine blk_drewN ?_ _ | refine blk_drew ?_ | refine blk_alloc ?_ _)); exact zaL.out⟩, ⟨M.up HB⟩⟩
                  · rw [if_neg c44] at H
                    exact absurd H (by simp)
              · replace c35 := Bool.eq_false_iff.mpr c35
                subst c35
                have H1 : (if t296 = 3 then ((commit_Is.f a0).bind fun t308 => (if a0.toList = ([] : List UInt8) then (pleachlaw35_CommitTakes.j1 kj2 a0 false (t308 != false) a1_0 l1_1 a1_2 a1_3 t290 t291 t294 t295) else (if 0 < (a0.size : Int) then (pleachlaw35_CommitTakes.j1 kj2 a0 false (t308 != ((bt a0 0) == 67)) a1_0 l1_1 a1_2 a1_3 t290 t291 t294 t295) else (none)))) else (pleachlaw35_CommitTakes.j1 kj2 a0 false true a1_0 l1_1 a1_2 a1_3 t290 t291 t294 t295)) = some r := by rw [if_neg (show ¬ (false = true) by decide)] at H; exact H
                clear H
                have H := H1
                clear H1
                by_cases c52 : t296 = 3
                · rw [if_pos c52] at H
                  have c52b0 : (t296 == 3) = true := beq_iff_eq.mpr c52
                  have c52b1 : (t296 != 3) = false := bne_eq_false_iff_eq.mpr c52
                  clear c52
                  replace H := Option.bind_eq_some_iff.mp H
                  obtain ⟨t308, A530, H⟩ := H
                  replace H : (if a0.toList = ([] : List UInt8) then (pleachlaw35_CommitTakes.j1 kj2 a0 false (t308 != false) a1_0 l1_1 a1_2 a1_3 t290 t291 t294 t295) else (if 0 < (a0.size : Int) then (pleachlaw35_CommitTakes.j1 kj2 a0 false (t308 != ((bt a0 0) == 67)) a1_0 l1_1 a1_2 a1_3 t290 t291 t294 t295) else (none))) = some r := H
                  have A53 := Aside0.mk A530
                  clear A530
                  by_cases c54 : a0.toList = ([] : List UInt8)
                  · rw [if_pos c54] at H
                    have c54b0 : (a0.toList == ([] : List UInt8)) = true := beq_iff_eq.mpr c54
                    have c54b1 : (a0.toList != ([] : List UInt8)) = false := bne_eq_false_iff_eq.mpr c54
                    clear c54
                    have H' := Aside0.mk H
                    clear H
                    have zb8 := zaz.out
                    have zb9 := zay.out
                    have zca := zaQ.out
                    have zcb := zaR.out
                    have zcc : w21.cell? ⟨zau, 0, none⟩ = some (.int .i64 t290) := (blk_cell zav.out 0).trans rfl
                    have zcd : w21.cell? ⟨zau, 1, none⟩ = some (.slice Ao19 t291.length co19) := (blk_cell zav.out 1).trans rfl
                    have zce : w21.cell? ⟨zau, 2, none⟩ = some (.string t294) := (blk_cell zav.out 2).trans rfl
                    have zcf : w21.cell? ⟨zau, 3, none⟩ = some (.string t295) := (blk_cell zav.out 3).trans rfl
                    have zcg := blk_frozen zav.out 0
                    have zch := blk_frozen zav.out 1
                    have zci := blk_frozen zav.out 2
                    have zcj := blk_frozen zav.out 3
                    have zck := zaP.out
                    have zcl := zaO.out
                    have zcm : w21.cell? ⟨zaK, 0, none⟩ = some (.int .i64 0) := (blk_cell zaL.out 0).trans rfl
                    have zcn : w21.cell? ⟨zaK, 1, none⟩ = some (.slice none 0 0) := (blk_cell zaL.out 1).trans rfl
                    have zco : w21.cell? ⟨zaK, 2, none⟩ = some (.string (⟨#[]⟩ : ByteArray)) := (blk_cell zaL.out 2).trans rfl
                    have zcp : w21.cell? ⟨zaK, 3, none⟩ = some (.string (⟨#[]⟩ : ByteArray)) := (blk_cell zaL.out 3).trans rfl
                    have zcq := blk_frozen zaL.out 0
                    have zcr := blk_frozen zaL.out 1
                    have zcs := blk_frozen zaL.out 2
                    have zct := blk_frozen zaL.out 3
                    go_wp2_with (first | ((with_reducible refine gate_callee (f := 11) rfl ?_); refine M.goes (some 36) Tryd.func11 #[.agg #[.int .i64 t290, .slice Ao19 t291.length co19, .string t294, .string t295], .agg #[.int .i64 t298, .slice Ao25 t299.length co25, .string t302, .string t303]] rfl ?_; (with_reducible refine (pleachref35_Same.calls t290 _ _ t291 t294 t295 t298 _ _ t299 t302 t303 true _ ?side1 ?side2 ?side3 ?side4 A26.out).mono ?_); (case side1 => refine (Kd.R_reads' (e := 9) (base := w.heap.size) (ok := fun k_ => (True ∧ some k_ ≠ (.slice Ao25 t299.length co25 : Value).ownBlock)) (n := t291.length) (c := co19) ?_).2.2; exact (by (with_reducible repeat (first | apply Kd.R_alloc | apply Kd.R_drewN | apply Kd.R_drew)); exact (Kd.R_mono (Kd.R_far (p := ⟨zaK, 3, none⟩) (Kd.R_far (p := ⟨zaK, 2, none⟩) (Kd.R_far (p := ⟨zaK, 1, none⟩) (Kd.R_far (p := ⟨zaK, 0, none⟩) (Kd.R_types HO293.out zaL.out (by decide)) (fun _ hk => hk.2) (.int .i64 t298)) (fun _ hk => hk.2) (.slice Ao25 t299.length co25)) (fun _ hk => hk.2) (.string t302)) (fun _ hk => hk.2) (.string t303)) (fun _ h_ => h_.1)))); (case side2 => exact (Kd.R_reads' HO293.out).2.1); (case side3 => refine (Kd.R_reads' (e := 9) (base := w.heap.size) (ok := fun k_ => (True ∧ some k_ ≠ (.slice Ao19 t291.length co19 : Value).ownBlock)) (n := t299.length) (c := co25) ?_).2.2; exact (by (with_reducible repeat (first | apply Kd.R_alloc | apply Kd.R_drewN | apply Kd.R_drew)); exact (Kd.R_mono (Kd.R_far (p := ⟨zaK, 3, none⟩) (Kd.R_far (p := ⟨zaK, 2, none⟩) (Kd.R_far (p := ⟨zaK, 1, none⟩) (Kd.R_far (p := ⟨zaK, 0, none⟩) (Kd.R_types HO301.out zaL.out (by decide)) (fun _ hk => hk.2) (.int .i64 t298)) (fun _ hk => hk.2) (.slice Ao25 t299.length co25)) (fun _ hk => hk.2) (.string t302)) (fun _ hk => hk.2) (.string t303)) (fun _ h_ => h_.1)))); (case side4 => exact (Kd.R_reads' HO301.out).2.1); rintro e w60 ⟨rfl, hb⟩; refine ⟨_, rfl, ?_⟩; have n0_ := Aside0.mk (Kd.R_below (by (with_reducible repeat (first | apply Kd.R_alloc | apply Kd.R_drewN | apply Kd.R_drew)); exact (Kd.R_mono (Kd.R_far (p := ⟨zaK, 3, none⟩) (Kd.R_far (p := ⟨zaK, 2, none⟩) (Kd.R_far (p := ⟨zaK, 1, none⟩) (Kd.R_far (p := ⟨zaK, 0, none⟩) (Kd.R_types HO293.out zaL.out (by decide)) (fun _ hk => hk.2) (.int .i64 t298)) (fun _ hk => hk.2) (.slice Ao25 t299.length co25)) (fun _ hk => hk.2) (.string t302)) (fun _ hk => hk.2) (.string t303)) (fun _ h_ => h_.1))) hb); have n1_ := Aside0.mk (Kd.R_below (by (with_reducible repeat (first | apply Kd.R_alloc | apply Kd.R_drewN | apply Kd.R_drew)); exact (Kd.R_mono (Kd.R_far (p := ⟨zaK, 3, none⟩) (Kd.R_far (p := ⟨zaK, 2, none⟩) (Kd.R_far (p := ⟨zaK, 1, none⟩) (Kd.R_far (p := ⟨zaK, 0, none⟩) (Kd.R_types HO301.out zaL.out (by decide)) (fun _ hk => hk.2) (.int .i64 t298)) (fun _ hk => hk.2) (.slice Ao25 t299.length co25)) (fun _ hk => hk.2) (.string t302)) (fun _ hk => hk.2) (.string t303)) (fun _ h_ => h_.1))) hb); have n2_ := Aside0.mk (blk_below (g := zai) (o := .cells #[.int .i64 a1_0, .slice A1_1 l1_1.length c1_1, .string a1_2, .string a1_3] 24 (0, 0)) (by (with_reducible repeat (first | refine blk_drewN ?_ _ | refine blk_drew ?_ | refine blk_alloc ?_ _)); refine blk_far ?_ zaO.out _; (with_reducible repeat (first | refine blk_drewN ?_ _ | refine blk_drew ?_ | refine blk_alloc ?_ _)); refine blk_far ?_ zaO.out _; (with_reducible repeat (first | refine blk_drewN ?_ _ | refine blk_drew ?_ | refine blk_alloc ?_ _)); refine blk_far ?_ zaO.out _; (with_reducible repeat (first | refine blk_drewN ?_ _ | refine blk_drew ?_ | refine blk_alloc ?_ _)); refine blk_far ?_ zaO.out _; (with_reducible repeat (first | refine blk_drewN ?_ _ | refine blk_drew ?_ | refine blk_alloc ?_ _)); exact zaj.out) hb); have n3_ := Aside0.mk (blk_below (g := zau) (o := .cells #[.int .i64 t290, .slice Ao19 t291.length co19, .string t294, .string t295] 24 (0, 0)) (by (with_reducible repeat (first | refine blk_drewN ?_ _ | refine blk_drew ?_ | refine blk_alloc ?_ _)); refine blk_far ?_ zaQ.out _; (with_reducible repeat (first | refine blk_drewN ?_ _ | refine blk_drew ?_ | refine blk_alloc ?_ _)); refine blk_far ?_ zaQ.out _; (with_reducible repeat (first | refine blk_drewN ?_ _ | refine blk_drew ?_ | refine blk_alloc ?_ _)); refine blk_far ?_ zaQ.out _; (with_reducible repeat (first | refine blk_drewN ?_ _ | refine blk_drew ?_ | refine blk_alloc ?_ _)); refine blk_far ?_ zaQ.out _; (with_reducible repeat (first | refine blk_drewN ?_ _ | refine blk_drew ?_ | refine blk_alloc ?_ _)); exact zav.out) hb); have n4_ := Aside0.mk (blk_below (g := zaK) (o := .cells #[.int .i64 t298, .slice Ao25 t299.length co25, .string t302, .string t303] 24 (0, 0)) (by (with_reducible repeat (first | refine blk_drewN ?_ _ | refine blk_drew ?_ | refine blk_alloc ?_ _)); refine blk_put (cs := #[.int .i64 t298, .slice Ao25 t299.length co25, .string t302, .string (⟨#[]⟩ : ByteArray)]) ?_ 3 _ rfl; (with_reducible repeat (first | refine blk_drewN ?_ _ | refine blk_drew ?_ | refine blk_alloc ?_ _)); refine blk_put (cs := #[.int .i64 t298, .slice Ao25 t299.length co25, .string (⟨#[]⟩ : ByteArray), .string (⟨#[]⟩ : ByteArray)]) ?_ 2 _ rfl; (with_reducible repeat (first | refine blk_drewN ?_ _ | refine blk_drew ?_ | refine blk_alloc ?_ _)); refine blk_put (cs := #[.int .i64 t298, .slice none 0 0, .string (⟨#[]⟩ : ByteArray), .string (⟨#[]⟩ : ByteArray)]) ?_ 1 _ rfl; (with_reducible repeat (first | refine blk_drewN ?_ _ | refine blk_drew ?_ | refine blk_alloc ?_ _)); refine blk_put (cs := #[.int .i64 0, .slice none 0 0, .string (⟨#[]⟩ : ByteArray), .string (⟨#[]⟩ : ByteArray)]) ?_ 0 _ rfl; (with_reducible repeat (first | refine blk_drewN ?_ _ | refine blk_drew ?_ | refine blk_alloc ?_ _)); exact zaL.out) hb); have n5_ := M.upS HB hb; clear HO293 HO301 zaj zav zaL HB; have HO293 := n0_; have HO301 := n1_; have zaj := n2_; have zav := n3_; have zaL := n4_; have HB := n5_; clear n0_ n1_ n2_ n3_ n4_ n5_; (try clear hb)) | (go_at_call 12; (with_reducible refine (commit_Is.calls a0 t308 _ A53.out).mono ?_); rintro e w' ⟨rfl, ⟨nd, rfl⟩⟩))
                    go_meet
                    case rel => exact ⟨_, ((t308 != false)), (by first | rfl | (simp; done) | (simp [*]; done) | (simp [M.isEmpty_bne]; done)), H', ⟨by have := HJ2.out; first | omega | exact Nat.le_refl _⟩, ⟨by (with_reducible repeat (first | apply Kd.R_alloc | apply Kd.R_drewN | apply Kd.R_drew)); exact Kd.R_mono HO293.out (fun _ hk => hk.2)⟩, ⟨by (with_reducible repeat (first | apply Kd.R_alloc | apply Kd.R_drewN | apply Kd.R_drew)); exact Kd.R_mono HO301.out (fun _ hk => hk.2)⟩, ⟨by (with_reducible repeat (first | refine blk_drewN ?_ _ | refine blk_drew ?_ | refine blk_alloc ?_ _)); exact zaj.out⟩, ⟨by (with_reducible repeat (first | refine blk_drewN ?_ _ | refine blk_drew ?_ | refine blk_alloc ?_ _)); exact zav.out⟩, ⟨by (with_reducible repeat (first | refine blk_drewN ?_ _ | refine blk_drew ?_ | refine blk_alloc ?_ _)); exact zaL.out⟩, ⟨M.up HB⟩⟩
                  · rw [if_neg c54] at H
                    have c54b0 : (a0.toList == ([] : List UInt8)) = false := beq_eq_false_iff_ne.mpr c54
                    have c54b1 : (a0.toList != ([] : List UInt8)) = true := bne_iff_ne.mpr c54
                    by_cases c61 : 0 < (a0.size : Int)
                    · rw [if_pos c61] at H
                      have c61b0 : decide (0 < (a0.size : Int)) = true := decide_eq_true c61
                      have c61b1 : decide (0 < a0.size) = true := decide_eq_true (by omega)
                      clear c61
                      have H' := Aside0.mk H
                      clear H
                      have zcu := zaz.out
                      have zcv := zay.out
                      have zcw := zaQ.out
                      have zcx := zaR.out
                      have zcy : w21.cell? ⟨zau, 0, none⟩ = some (.int .i64 t290) := (blk_cell zav.out 0).trans rfl
                      have zcz : w21.cell? ⟨zau, 1, none⟩ = some (.slice Ao19 t291.length co19) := (blk_cell zav.out 1).trans rfl
                      have zcA : w21.cell? ⟨zau, 2, none⟩ = some (.string t294) := (blk_cell zav.out 2).trans rfl
                      have zcB : w21.cell? ⟨zau, 3, none⟩ = some (.string t295) := (blk_cell zav.out 3).trans rfl
                      have zcC := blk_frozen zav.out 0
                      have zcD := blk_frozen zav.out 1
                      have zcE := blk_frozen zav.out 2
                      have zcF := blk_frozen zav.out 3
                      have zcG := zaP.out
                      have zcH := zaO.out
                      have zcI : w21.cell? ⟨zaK, 0, none⟩ = some (.int .i64 0) := (blk_cell zaL.out 0).trans rfl
                      have zcJ : w21.cell? ⟨zaK, 1, none⟩ = some (.slice none 0 0) := (blk_cell zaL.out 1).trans rfl
                      have zcK : w21.cell? ⟨zaK, 2, none⟩ = some (.string (⟨#[]⟩ : ByteArray)) := (blk_cell zaL.out 2).trans rfl
                      have zcL : w21.cell? ⟨zaK, 3, none⟩ = some (.string (⟨#[]⟩ : ByteArray)) := (blk_cell zaL.out 3).trans rfl
                      have zcM := blk_frozen zaL.out 0
                      have zcN := blk_frozen zaL.out 1
                      have zcO := blk_frozen zaL.out 2
                      have zcP := blk_frozen zaL.out 3
                      go_wp2_with (first | ((with_reducible refine gate_callee (f := 11) rfl ?_); refine M.goes (some 36) Tryd.func11 #[.agg #[.int .i64 t290, .slice Ao19 t291.length co19, .string t294, .string t295], .agg #[.int .i64 t298, .slice Ao25 t299.length co25, .string t302, .string t303]] rfl ?_; (with_reducible refine (pleachref35_Same.calls t290 _ _ t291 t294 t295 t298 _ _ t299 t302 t303 true _ ?side1 ?side2 ?side3 ?side4 A26.out).mono ?_); (case side1 => refine (Kd.R_reads' (e := 9) (base := w.heap.size) (ok := fun k_ => (True ∧ some k_ ≠ (.slice Ao25 t299.length co25 : Value).ownBlock)) (n := t291.length) (c := co19) ?_).2.2; exact (by (with_reducible repeat (first | apply Kd.R_alloc | apply Kd.R_drewN | apply Kd.R_drew)); exact (Kd.R_mono (Kd.R_far (p := ⟨zaK, 3, none⟩) (Kd.R_far (p := ⟨zaK, 2, none⟩) (Kd.R_far (p := ⟨zaK, 1, none⟩) (Kd.R_far (p := ⟨zaK, 0, none⟩) (Kd.R_types HO293.out zaL.out (by decide)) (fun _ hk => hk.2) (.int .i64 t298)) (fun _ hk => hk.2) (.slice Ao25 t299.length co25)) (fun _ hk => hk.2) (.string t302)) (fun _ hk => hk.2) (.string t303)) (fun _ h_ => h_.1)))); (case side2 => exact (Kd.R_reads' HO293.out).2.1); (case side3 => refine (Kd.R_reads' (e := 9) (base := w.heap.size) (ok := fun k_ => (True ∧ some k_ ≠ (.slice Ao19 t291.length co19 : Value).ownBlock)) (n := t299.length) (c := co25) ?_).2.2; exact (by (with_reducible repeat (first | apply Kd.R_alloc | apply Kd.R_drewN | apply Kd.R_drew)); exact (Kd.R_mono (Kd.R_far (p := ⟨zaK, 3, none⟩) (Kd.R_far (p := ⟨zaK, 2, none⟩) (Kd.R_far (p := ⟨zaK, 1, none⟩) (Kd.R_far (p := ⟨zaK, 0, none⟩) (Kd.R_types HO301.out zaL.out (by decide)) (fun _ hk => hk.2) (.int .i64 t298)) (fun _ hk => hk.2) (.slice Ao25 t299.length co25)) (fun _ hk => hk.2) (.string t302)) (fun _ hk => hk.2) (.string t303)) (fun _ h_ => h_.1)))); (case side4 => exact (Kd.R_reads' HO301.out).2.1); rintro e w68 ⟨rfl, hb⟩; refine ⟨_, rfl, ?_⟩; have n0_ := Aside0.mk (Kd.R_below (by (with_reducible repeat (first | apply Kd.R_alloc | apply Kd.R_drewN | apply Kd.R_drew)); exact (Kd.R_mono (Kd.R_far (p := ⟨zaK, 3, none⟩) (Kd.R_far (p := ⟨zaK, 2, none⟩) (Kd.R_far (p := ⟨zaK, 1, none⟩) (Kd.R_far (p := ⟨zaK, 0, none⟩) (Kd.R_types HO293.out zaL.out (by decide)) (fun _ hk => hk.2) (.int .i64 t298)) (fun _ hk => hk.2) (.slice Ao25 t299.length co25)) (fun _ hk => hk.2) (.string t302)) (fun _ hk => hk.2) (.string t303)) (fun _ h_ => h_.1))) hb); have n1_ := Aside0.mk (Kd.R_below (by (with_reducible repeat (first | apply Kd.R_alloc | apply Kd.R_drewN | apply Kd.R_drew)); exact (Kd.R_mono (Kd.R_far (p := ⟨zaK, 3, none⟩) (Kd.R_far (p := ⟨zaK, 2, none⟩) (Kd.R_far (p := ⟨zaK, 1, none⟩) (Kd.R_far (p := ⟨zaK, 0, none⟩) (Kd.R_types HO301.out zaL.out (by decide)) (fun _ hk => hk.2) (.int .i64 t298)) (fun _ hk => hk.2) (.slice Ao25 t299.length co25)) (fun _ hk => hk.2) (.string t302)) (fun _ hk => hk.2) (.string t303)) (fun _ h_ => h_.1))) hb); have n2_ := Aside0.mk (blk_below (g := zai) (o := .cells #[.int .i64 a1_0, .slice A1_1 l1_1.length c1_1, .string a1_2, .string a1_3] 24 (0, 0)) (by (with_reducible repeat (first | refine blk_drewN ?_ _ | refine blk_drew ?_ | refine blk_alloc ?_ _)); refine blk_far ?_ zaO.out _; (with_reducible repeat (first | refine blk_drewN ?_ _ | refine blk_drew ?_ | refine blk_alloc ?_ _)); refine blk_far ?_ zaO.out _; (with_reducible repeat (first | refine blk_drewN ?_ _ | refine blk_drew ?_ | refine blk_alloc ?_ _)); refine blk_far ?_ zaO.out _; (with_reducible repeat (first | refine blk_drewN ?_ _ | refine blk_drew ?_ | refine blk_alloc ?_ _)); refine blk_far ?_ zaO.out _; (with_reducible repeat (first | refine blk_drewN ?_ _ | refine blk_drew ?_ | refine blk_alloc ?_ _)); exact zaj.out) hb); have n3_ := Aside0.mk (blk_below (g := zau) (o := .cells #[.int .i64 t290, .slice Ao19 t291.length co19, .string t294, .string t295] 24 (0, 0)) (by (with_reducible repeat (first | refine blk_drewN ?_ _ | refine blk_drew ?_ | refine blk_alloc ?_ _)); refine blk_far ?_ zaQ.out _; (with_reducible repeat (first | refine blk_drewN ?_ _ | refine blk_drew ?_ | refine blk_alloc ?_ _)); refine blk_far ?_ zaQ.out _; (with_reducible repeat (first | refine blk_drewN ?_ _ | refine blk_drew ?_ | refine blk_alloc ?_ _)); refine blk_far ?_ zaQ.out _; (with_reducible repeat (first | refine blk_drewN ?_ _ | refine blk_drew ?_ | refine blk_alloc ?_ _)); refine blk_far ?_ zaQ.out _; (with_reducible repeat (first | refine blk_drewN ?_ _ | refine blk_drew ?_ | refine blk_alloc ?_ _)); exact zav.out) hb); have n4_ := Aside0.mk (blk_below (g := zaK) (o := .cells #[.int .i64 t298, .slice Ao25 t299.length co25, .string t302, .string t303] 24 (0, 0)) (by (with_reducible repeat (first | refine blk_drewN ?_ _ | refine blk_drew ?_ | refine blk_alloc ?_ _)); refine blk_put (cs := #[.int .i64 t298, .slice Ao25 t299.length co25, .string t302, .string (⟨#[]⟩ : ByteArray)]) ?_ 3 _ rfl; (with_reducible repeat (first | refine blk_drewN ?_ _ | refine blk_drew ?_ | refine blk_alloc ?_ _)); refine blk_put (cs := #[.int .i64 t298, .slice Ao25 t299.length co25, .string (⟨#[]⟩ : ByteArray), .string (⟨#[]⟩ : ByteArray)]) ?_ 2 _ rfl; (with_reducible repeat (first | refine blk_drewN ?_ _ | refine blk_drew ?_ | refine blk_alloc ?_ _)); refine blk_put (cs := #[.int .i64 t298, .slice none 0 0, .string (⟨#[]⟩ : ByteArray), .string (⟨#[]⟩ : ByteArray)]) ?_ 1 _ rfl; (with_reducible repeat (first | refine blk_drewN ?_ _ | refine blk_drew ?_ | refine blk_alloc ?_ _)); refine blk_put (cs := #[.int .i64 0, .slice none 0 0, .string (⟨#[]⟩ : ByteArray), .string (⟨#[]⟩ : ByteArray)]) ?_ 0 _ rfl; (with_reducible repeat (first | refine blk_drewN ?_ _ | refine blk_drew ?_ | refine blk_alloc ?_ _)); exact zaL.out) hb); have n5_ := M.upS HB hb; clear HO293 HO301 zaj zav zaL HB; have HO293 := n0_; have HO301 := n1_; have zaj := n2_; have zav := n3_; have zaL := n4_; have HB := n5_; clear n0_ n1_ n2_ n3_ n4_ n5_; (try clear hb)) | (go_at_call 12; (with_reducible refine (commit_Is.calls a0 t308 _ A53.out).mono ?_); rintro e w' ⟨rfl, ⟨nd, rfl⟩⟩; have p62 : 0 ≤ (0 : Int) := (by omega); have q62 : 0 < a0.size := (by have : (0 : Int) < (a0.size : Int) := of_decide_eq_true (by first | (with_reducible assumption) | assumption); omega); have hx62 : ∀ h : 0 < a0.size, ((a0[0]'h).toNat : Int) = bt a0 0 := bt_at a0 0; clear p62; have qi62 : (0 < (a0.size : Int)) = True := eq_true (of_decide_eq_true (by first | (with_reducible assumption) | assumption)); replace q62 := eq_true q62))
                      go_meet
                      case rel => exact ⟨_, ((t308 != ((bt a0 0) == 67))), (by first | rfl | (simp; done) | (simp [*]; done) | (simp [M.isEmpty_bne]; done)), H', ⟨by have := HJ2.out; first | omega | exact Nat.le_refl _⟩, ⟨by (with_reducible repeat (first | apply Kd.R_alloc | apply Kd.R_drewN | apply Kd.R_drew)); exact Kd.R_mono HO293.out (fun _ hk => hk.2)⟩, ⟨by (with_reducible repeat (first | apply Kd.R_alloc | apply Kd.R_drewN | apply Kd.R_drew)); exact Kd.R_mono HO301.out (fun _ hk => hk.2)⟩, ⟨by (with_reducible repeat (first | refine blk_drewN ?_ _ | refine blk_drew ?_ | refine blk_alloc ?_ _)); exact zaj.out⟩, ⟨by (with_reducible repeat (first | refine blk_drewN ?_ _ | refine blk_drew ?_ | refine blk_alloc ?_ _)); exact zav.out⟩, ⟨by (with_reducible repeat (first | refine blk_drewN ?_ _ | refine blk_drew ?_ | refine blk_alloc ?_ _)); exact zaL.out⟩, ⟨M.up HB⟩⟩
                    · rw [if_neg c61] at H
                      exact absurd H (by simp)
                · rw [if_neg c52] at H
                  have c52b0 : (t296 == 3) = false := beq_eq_false_iff_ne.mpr c52
                  have c52b1 : (t296 != 3) = true := bne_iff_ne.mpr c52
                  have H' := Aside0.mk H
                  clear H
                  have zcQ := zaz.out
                  have zcR := zay.out
                  have zcS := zaQ.out
                  have zcT := zaR.out
                  have zcU : w21.cell? ⟨zau, 0, none⟩ = some (.int .i64 t290) := (blk_cell zav.out 0).trans rfl
                  have zcV : w21.cell? ⟨zau, 1, none⟩ = some (.slice Ao19 t291.length co19) := (blk_cell zav.out 1).trans rfl
                  have zcW : w21.cell? ⟨zau, 2, none⟩ = some (.string t294) := (blk_cell zav.out 2).trans rfl
                  have zcX : w21.cell? ⟨zau, 3, none⟩ = some (.string t295) := (blk_cell zav.out 3).trans rfl
                  have zcY := blk_frozen zav.out 0
                  have zcZ := blk_frozen zav.out 1
                  have zc0 := blk_frozen zav.out 2
                  have zc1 := blk_frozen zav.out 3
                  have zc2 := zaP.out
                  have zc3 := zaO.out
                  have zc4 : w21.cell? ⟨zaK, 0, none⟩ = some (.int .i64 0) := (blk_cell zaL.out 0).trans rfl
                  have zc5 : w21.cell? ⟨zaK, 1, none⟩ = some (.slice none 0 0) := (blk_cell zaL.out 1).trans rfl
                  have zc6 : w21.cell? ⟨zaK, 2, none⟩ = some (.string (⟨#[]⟩ : ByteArray)) := (blk_cell zaL.out 2).trans rfl
                  have zc7 : w21.cell? ⟨zaK, 3, none⟩ = some (.string (⟨#[]⟩ : ByteArray)) := (blk_cell zaL.out 3).trans rfl
                  have zc8 := blk_frozen zaL.out 0
                  have zc9 := blk_frozen zaL.out 1
                  have zda := blk_frozen zaL.out 2
                  have zdb := blk_frozen zaL.out 3
                  go_wp2_with (first | ((with_reducible refine gate_callee (f := 11) rfl ?_); refine M.goes (some 36) Tryd.func11 #[.agg #[.int .i64 t290, .slice Ao19 t291.length co19, .string t294, .string t295], .agg #[.int .i64 t298, .slice Ao25 t299.length co25, .string t302, .string t303]] rfl ?_; (with_reducible refine (pleachref35_Same.calls t290 _ _ t291 t294 t295 t298 _ _ t299 t302 t303 true _ ?side1 ?side2 ?side3 ?side4 A26.out).mono ?_); (case side1 => refine (Kd.R_reads' (e := 9) (base := w.heap.size) (ok := fun k_ => (True ∧ some k_ ≠ (.slice Ao25 t299.length co25 : Value).ownBlock)) (n := t291.length) (c := co19) ?_).2.2; exact (by (with_reducible repeat (first | apply Kd.R_alloc | apply Kd.R_drewN | apply Kd.R_drew)); exact (Kd.R_mono (Kd.R_far (p := ⟨zaK, 3, none⟩) (Kd.R_far (p := ⟨zaK, 2, none⟩) (Kd.R_far (p := ⟨zaK, 1, none⟩) (Kd.R_far (p := ⟨zaK, 0, none⟩) (Kd.R_types HO293.out zaL.out (by decide)) (fun _ hk => hk.2) (.int .i64 t298)) (fun _ hk => hk.2) (.slice Ao25 t299.length co25)) (fun _ hk => hk.2) (.string t302)) (fun _ hk => hk.2) (.string t303)) (fun _ h_ => h_.1)))); (case side2 => exact (Kd.R_reads' HO293.out).2.1); (case side3 => refine (Kd.R_reads' (e := 9) (base := w.heap.size) (ok := fun k_ => (True ∧ some k_ ≠ (.slice Ao19 t291.length co19 : Value).ownBlock)) (n := t299.length) (c := co25) ?_).2.2; exact (by (with_reducible repeat (first | apply Kd.R_alloc | apply Kd.R_drewN | apply Kd.R_drew)); exact (Kd.R_mono (Kd.R_far (p := ⟨zaK, 3, none⟩) (Kd.R_far (p := ⟨zaK, 2, none⟩) (Kd.R_far (p := ⟨zaK, 1, none⟩) (Kd.R_far (p := ⟨zaK, 0, none⟩) (Kd.R_types HO301.out zaL.out (by decide)) (fun _ hk => hk.2) (.int .i64 t298)) (fun _ hk => hk.2) (.slice Ao25 t299.length co25)) (fun _ hk => hk.2) (.string t302)) (fun _ hk => hk.2) (.string t303)) (fun _ h_ => h_.1)))); (case side4 => exact (Kd.R_reads' HO301.out).2.1); rintro e w74 ⟨rfl, hb⟩; refine ⟨_, rfl, ?_⟩; have n0_ := Aside0.mk (Kd.R_below (by (with_reducible repeat (first | apply Kd.R_alloc | apply Kd.R_drewN | apply Kd.R_drew)); exact (Kd.R_mono (Kd.R_far (p := ⟨zaK, 3, none⟩) (Kd.R_far (p := ⟨zaK, 2, none⟩) (Kd.R_far (p := ⟨zaK, 1, none⟩) (Kd.R_far (p := ⟨zaK, 0, none⟩) (Kd.R_types HO293.out zaL.out (by decide)) (fun _ hk => hk.2) (.int .i64 t298)) (fun _ hk => hk.2) (.slice Ao25 t299.length co25)) (fun _ hk => hk.2) (.string t302)) (fun _ hk => hk.2) (.string t303)) (fun _ h_ => h_.1))) hb); have n1_ := Aside0.mk (Kd.R_below (by (with_reducible repeat (first | apply Kd.R_alloc | apply Kd.R_drewN | apply Kd.R_drew)); exact (Kd.R_mono (Kd.R_far (p := ⟨zaK, 3, none⟩) (Kd.R_far (p := ⟨zaK, 2, none⟩) (Kd.R_far (p := ⟨zaK, 1, none⟩) (Kd.R_far (p := ⟨zaK, 0, none⟩) (Kd.R_types HO301.out zaL.out (by decide)) (fun _ hk => hk.2) (.int .i64 t298)) (fun _ hk => hk.2) (.slice Ao25 t299.length co25)) (fun _ hk => hk.2) (.string t302)) (fun _ hk => hk.2) (.string t303)) (fun _ h_ => h_.1))) hb); have n2_ := Aside0.mk (blk_below (g := zai) (o := .cells #[.int .i64 a1_0, .slice A1_1 l1_1.length c1_1, .string a1_2, .string a1_3] 24 (0, 0)) (by (with_reducible repeat (first | refine blk_drewN ?_ _ | refine blk_drew ?_ | refine blk_alloc ?_ _)); refine blk_far ?_ zaO.out _; (with_reducible repeat (first | refine blk_drewN ?_ _ | refine blk_drew ?_ | refine blk_alloc ?_ _)); refine blk_far ?_ zaO.out _; (with_reducible repeat (first | refine blk_drewN ?_ _ | refine blk_drew ?_ | refine blk_alloc ?_ _)); refine blk_far ?_ zaO.out _; (with_reducible repeat (first | refine blk_drewN ?_ _ | refine blk_drew ?_ | refine blk_alloc ?_ _)); refine blk_far ?_ zaO.out _; (with_reducible repeat (first | refine blk_drewN ?_ _ | refine blk_drew ?_ | refine blk_alloc ?_ _)); exact zaj.out) hb); have n3_ := Aside0.mk (blk_below (g := zau) (o := .cells #[.int .i64 t290, .slice Ao19 t291.length co19, .string t294, .string t295] 24 (0, 0)) (by (with_reducible repeat (first | refine blk_drewN ?_ _ | refine blk_drew ?_ | refine blk_alloc ?_ _)); refine blk_far ?_ zaQ.out _; (with_reducible repeat (first | refine blk_drewN ?_ _ | refine blk_drew ?_ | refine blk_alloc ?_ _)); refine blk_far ?_ zaQ.out _; (with_reducible repeat (first | refine blk_drewN ?_ _ | refine blk_drew ?_ | refine blk_alloc ?_ _)); refine blk_far ?_ zaQ.out _; (with_reducible repeat (first | refine blk_drewN ?_ _ | refine blk_drew ?_ | refine blk_alloc ?_ _)); refine blk_far ?_ zaQ.out _; (with_reducible repeat (first | refine blk_drewN ?_ _ | refine blk_drew ?_ | refine blk_alloc ?_ _)); exact zav.out) hb); have n4_ := Aside0.mk (blk_below (g := zaK) (o := .cells #[.int .i64 t298, .slice Ao25 t299.length co25, .string t302, .string t303] 24 (0, 0)) (by (with_reducible repeat (first | refine blk_drewN ?_ _ | refine blk_drew ?_ | refine blk_alloc ?_ _)); refine blk_put (cs := #[.int .i64 t298, .slice Ao25 t299.length co25, .string t302, .string (⟨#[]⟩ : ByteArray)]) ?_ 3 _ rfl; (with_reducible repeat (first | refine blk_drewN ?_ _ | refine blk_drew ?_ | refine blk_alloc ?_ _)); refine blk_put (cs := #[.int .i64 t298, .slice Ao25 t299.length co25, .string (⟨#[]⟩ : ByteArray), .string (⟨#[]⟩ : ByteArray)]) ?_ 2 _ rfl; (with_reducible repeat (first | refine blk_drewN ?_ _ | refine blk_drew ?_ | refine blk_alloc ?_ _)); refine blk_put (cs := #[.int .i64 t298, .slice none 0 0, .string (⟨#[]⟩ : ByteArray), .string (⟨#[]⟩ : ByteArray)]) ?_ 1 _ rfl; (with_reducible repeat (first | refine blk_drewN ?_ _ | refine blk_drew ?_ | refine blk_alloc ?_ _)); refine blk_put (cs := #[.int .i64 0, .slice none 0 0, .string (⟨#[]⟩ : ByteArray), .string (⟨#[]⟩ : ByteArray)]) ?_ 0 _ rfl; (with_reducible repeat (first | refine blk_drewN ?_ _ | refine blk_drew ?_ | refine blk_alloc ?_ _)); exact zaL.out) hb); have n5_ := M.upS HB hb; clear HO293 HO301 zaj zav zaL HB; have HO293 := n0_; have HO301 := n1_; have zaj := n2_; have zav := n3_; have zaL := n4_; have HB := n5_; clear n0_ n1_ n2_ n3_ n4_ n5_; (try clear hb)))
                  go_meet
                  case rel => exact ⟨_, (true), (by first | rfl | (simp; done) | (simp [*]; done) | (simp [M.isEmpty_bne]; done)), H', ⟨by have := HJ2.out; first | omega | exact Nat.le_refl _⟩, ⟨by (with_reducible repeat (first | apply Kd.R_alloc | apply Kd.R_drewN | apply Kd.R_drew)); exact Kd.R_mono HO293.out (fun _ hk => hk.2)⟩, ⟨by (with_reducible repeat (first | apply Kd.R_alloc | apply Kd.R_drewN | apply Kd.R_drew)); exact Kd.R_mono HO301.out (fun _ hk => hk.2)⟩, ⟨by (with_reducible repeat (first | refine blk_drewN ?_ _ | refine blk_drew ?_ | refine blk_alloc ?_ _)); exact zaj.out⟩, ⟨by (with_reducible repeat (first | refine blk_drewN ?_ _ | refine blk_drew ?_ | refine blk_alloc ?_ _)); exact zav.out⟩, ⟨by (with_reducible repeat (first | refine blk_drewN ?_ _ | refine blk_drew ?_ | refine blk_alloc ?_ _)); exact zaL.out⟩, ⟨M.up HB⟩⟩
          · replace c27 := Bool.eq_false_iff.mpr c27
            subst c27
            have H1 : (pleachlaw35_CommitTakes.j1 kj2 a0 t304 true a1_0 l1_1 a1_2 a1_3 t290 t291 t294 t295) = some r := by rw [if_neg (show ¬ (false = true) by decide)] at H; exact H
            clear H
            have H := H1
            clear H1
            have H' := Aside0.mk H
            clear H
            have zdc := zaz.out
            have zdd := zay.out
            have zde := zaQ.out
            have zdf := zaR.out
            have zdg : w21.cell? ⟨zau, 0, none⟩ = some (.int .i64 t290) := (blk_cell zav.out 0).trans rfl
            have zdh : w21.cell? ⟨zau, 1, none⟩ = some (.slice Ao19 t291.length co19) := (blk_cell zav.out 1).trans rfl
            have zdi : w21.cell? ⟨zau, 2, none⟩ = some (.string t294) := (blk_cell zav.out 2).trans rfl
            have zdj : w21.cell? ⟨zau, 3, none⟩ = some (.string t295) := (blk_cell zav.out 3).trans rfl
            have zdk := blk_frozen zav.out 0
            have zdl := blk_frozen zav.out 1
            have zdm := blk_frozen zav.out 2
            have zdn := blk_frozen zav.out 3
            have zdo := zaP.out
            have zdp := zaO.out
            have zdq : w21.cell? ⟨zaK, 0, none⟩ = some (.int .i64 0) := (blk_cell zaL.out 0).trans rfl
            have zdr : w21.cell? ⟨zaK, 1, none⟩ = some (.slice none 0 0) := (blk_cell zaL.out 1).trans rfl
            have zds : w21.cell? ⟨zaK, 2, none⟩ = some (.string (⟨#[]⟩ : ByteArray)) := (blk_cell zaL.out 2).trans rfl
            have zdt : w21.cell? ⟨zaK, 3, none⟩ = some (.string (⟨#[]⟩ : ByteArray)) := (blk_cell zaL.out 3).trans rfl
            have zdu := blk_frozen zaL.out 0
            have zdv := blk_frozen zaL.out 1
            have zdw := blk_frozen zaL.out 2
            have zdx := blk_frozen zaL.out 3
            go_wp2_with (first | ((with_reducible refine gate_callee (f := 11) rfl ?_); refine M.goes (some 36) Tryd.func11 #[.agg #[.int .i64 t290, .slice Ao19 t291.length co19, .string t294, .string t295], .agg #[.int .i64 t298, .slice Ao25 t299.length co25, .string t302, .string t303]] rfl ?_; (with_reducible refine (pleachref35_Same.calls t290 _ _ t291 t294 t295 t298 _ _ t299 t302 t303 false _ ?side1 ?side2 ?side3 ?side4 A26.out).mono ?_); (case side1 => refine (Kd.R_reads' (e := 9) (base := w.heap.size) (ok := fun k_ => (True ∧ some k_ ≠ (.slice Ao25 t299.length co25 : Value).ownBlock)) (n := t291.length) (c := co19) ?_).2.2; exact (by (with_reducible repeat (first | apply Kd.R_alloc | apply Kd.R_drewN | apply Kd.R_drew)); exact (Kd.R_mono (Kd.R_far (p := ⟨zaK, 3, none⟩) (Kd.R_far (p := ⟨zaK, 2, none⟩) (Kd.R_far (p := ⟨zaK, 1, none⟩) (Kd.R_far (p := ⟨zaK, 0, none⟩) (Kd.R_types HO293.out zaL.out (by decide)) (fun _ hk => hk.2) (.int .i64 t298)) (fun _ hk => hk.2) (.slice Ao25 t299.length co25)) (fun _ hk => hk.2) (.string t302)) (fun _ hk => hk.2) (.string t303)) (fun _ h_ => h_.1)))); (case side2 => exact (Kd.R_reads' HO293.out).2.1); (case side3 => refine (Kd.R_reads' (e := 9) (base := w.heap.size) (ok := fun k_ => (True ∧ some k_ ≠ (.slice Ao19 t291.length co19 : Value).ownBlock)) (n := t299.length) (c := co25) ?_).2.2; exact (by (with_reducible repeat (first | apply Kd.R_alloc | apply Kd.R_drewN | apply Kd.R_drew)); exact (Kd.R_mono (Kd.R_far (p := ⟨zaK, 3, none⟩) (Kd.R_far (p := ⟨zaK, 2, none⟩) (Kd.R_far (p := ⟨zaK, 1, none⟩) (Kd.R_far (p := ⟨zaK, 0, none⟩) (Kd.R_types HO301.out zaL.out (by decide)) (fun _ hk => hk.2) (.int .i64 t298)) (fun _ hk => hk.2) (.slice Ao25 t299.length co25)) (fun _ hk => hk.2) (.string t302)) (fun _ hk => hk.2) (.string t303)) (fun _ h_ => h_.1)))); (case side4 => exact (Kd.R_reads' HO301.out).2.1); rintro e w80 ⟨rfl, hb⟩; refine ⟨_, rfl, ?_⟩; have n0_ := Aside0.mk (Kd.R_below (by (with_reducible repeat (first | apply Kd.R_alloc | apply Kd.R_drewN | apply Kd.R_drew)); exact (Kd.R_mono (Kd.R_far (p := ⟨zaK, 3, none⟩) (Kd.R_far (p := ⟨zaK, 2, none⟩) (Kd.R_far (p := ⟨zaK, 1, none⟩) (Kd.R_far (p := ⟨zaK, 0, none⟩) (Kd.R_types HO293.out zaL.out (by decide)) (fun _ hk => hk.2) (.int .i64 t298)) (fun _ hk => hk.2) (.slice Ao25 t299.length co25)) (fun _ hk => hk.2) (.string t302)) (fun _ hk => hk.2) (.string t303)) (fun _ h_ => h_.1))) hb); have n1_ := Aside0.mk (Kd.R_below (by (with_reducible repeat (first | apply Kd.R_alloc | apply Kd.R_drewN | apply Kd.R_drew)); exact (Kd.R_mono (Kd.R_far (p := ⟨zaK, 3, none⟩) (Kd.R_far (p := ⟨zaK, 2, none⟩) (Kd.R_far (p := ⟨zaK, 1, none⟩) (Kd.R_far (p := ⟨zaK, 0, none⟩) (Kd.R_types HO301.out zaL.out (by decide)) (fun _ hk => hk.2) (.int .i64 t298)) (fun _ hk => hk.2) (.slice Ao25 t299.length co25)) (fun _ hk => hk.2) (.string t302)) (fun _ hk => hk.2) (.string t303)) (fun _ h_ => h_.1))) hb); have n2_ := Aside0.mk (blk_below (g := zai) (o := .cells #[.int .i64 a1_0, .slice A1_1 l1_1.length c1_1, .string a1_2, .string a1_3] 24 (0, 0)) (by (with_reducible repeat (first | refine blk_drewN ?_ _ | refine blk_drew ?_ | refine blk_alloc ?_ _)); refine blk_far ?_ zaO.out _; (with_reducible repeat (first | refine blk_drewN ?_ _ | refine blk_drew ?_ | refine blk_alloc ?_ _)); refine blk_far ?_ zaO.out _; (with_reducible repeat (first | refine blk_drewN ?_ _ | refine blk_drew ?_ | refine blk_alloc ?_ _)); refine blk_far ?_ zaO.out _; (with_reducible repeat (first | refine blk_drewN ?_ _ | refine blk_drew ?_ | refine blk_alloc ?_ _)); refine blk_far ?_ zaO.out _; (with_reducible repeat (first | refine blk_drewN ?_ _ | refine blk_drew ?_ | refine blk_alloc ?_ _)); exact zaj.out) hb); have n3_ := Aside0.mk (blk_below (g := zau) (o := .cells #[.int .i64 t290, .slice Ao19 t291.length co19, .string t294, .string t295] 24 (0, 0)) (by (with_reducible repeat (first | refine blk_drewN ?_ _ | refine blk_drew ?_ | refine blk_alloc ?_ _)); refine blk_far ?_ zaQ.out _; (with_reducible repeat (first | refine blk_drewN ?_ _ | refine blk_drew ?_ | refine blk_alloc ?_ _)); refine blk_far ?_ zaQ.out _; (with_reducible repeat (first | refine blk_drewN ?_ _ | refine blk_drew ?_ | refine blk_alloc ?_ _)); refine blk_far ?_ zaQ.out _; (with_reducible repeat (first | refine blk_drewN ?_ _ | refine blk_drew ?_ | refine blk_alloc ?_ _)); refine blk_far ?_ zaQ.out _; (with_reducible repeat (first | refine blk_drewN ?_ _ | refine blk_drew ?_ | refine blk_alloc ?_ _)); exact zav.out) hb); have n4_ := Aside0.mk (blk_below (g := zaK) (o := .cells #[.int .i64 t298, .slice Ao25 t299.length co25, .string t302, .string t303] 24 (0, 0)) (by (with_reducible repeat (first | refine blk_drewN ?_ _ | refine blk_drew ?_ | refine blk_alloc ?_ _)); refine blk_put (cs := #[.int .i64 t298, .slice Ao25 t299.length co25, .string t302, .string (⟨#[]⟩ : ByteArray)]) ?_ 3 _ rfl; (with_reducible repeat (first | refine blk_drewN ?_ _ | refine blk_drew ?_ | refine blk_alloc ?_ _)); refine blk_put (cs := #[.int .i64 t298, .slice Ao25 t299.length co25, .string (⟨#[]⟩ : ByteArray), .string (⟨#[]⟩ : ByteArray)]) ?_ 2 _ rfl; (with_reducible repeat (first | refine blk_drewN ?_ _ | refine blk_drew ?_ | refine blk_alloc ?_ _)); refine blk_put (cs := #[.int .i64 t298, .slice none 0 0, .string (⟨#[]⟩ : ByteArray), .string (⟨#[]⟩ : ByteArray)]) ?_ 1 _ rfl; (with_reducible repeat (first | refine blk_drewN ?_ _ | refine blk_drew ?_ | refine blk_alloc ?_ _)); refine blk_put (cs := #[.int .i64 0, .slice none 0 0, .string (⟨#[]⟩ : ByteArray), .string (⟨#[]⟩ : ByteArray)]) ?_ 0 _ rfl; (with_reducible repeat (first | refine blk_drewN ?_ _ | refine blk_drew ?_ | refine blk_alloc ?_ _)); exact zaL.out) hb); have n5_ := M.upS HB hb; clear HO293 HO301 zaj zav zaL HB; have HO293 := n0_; have HO301 := n1_; have zaj := n2_; have zav := n3_; have zaL := n4_; have HB := n5_; clear n0_ n1_ n2_ n3_ n4_ n5_; (try clear hb)))
            go_meet
            case rel => exact ⟨_, (true), (by first | rfl | (simp; done) | (simp [*]; done) | (simp [M.isEmpty_bne]; done)), H', ⟨by have := HJ2.out; first | omega | exact Nat.le_refl _⟩, ⟨by (with_reducible repeat (first | apply Kd.R_alloc | apply Kd.R_drewN | apply Kd.R_drew)); exact Kd.R_mono HO293.out (fun _ hk => hk.2)⟩, ⟨by (with_reducible repeat (first | apply Kd.R_alloc | apply Kd.R_drewN | apply Kd.R_drew)); exact Kd.R_mono HO301.out (fun _ hk => hk.2)⟩, ⟨by (with_reducible repeat (first | refine blk_drewN ?_ _ | refine blk_drew ?_ | refine blk_alloc ?_ _)); exact zaj.out⟩, ⟨by (with_reducible repeat (first | refine blk_drewN ?_ _ | refine blk_drew ?_ | refine blk_alloc ?_ _)); exact zav.out⟩, ⟨by (with_reducible repeat (first | refine blk_drewN ?_ _ | refine blk_drew ?_ | refine blk_alloc ?_ _)); exact zaL.out⟩, ⟨M.up HB⟩⟩
        case rest =>
          clear HC14
          try clear c1
          try clear c2
          try clear p2
          try clear c3
          try clear c4
          try clear p4
          try clear q4
          try clear hx4
          try clear qi4
          try clear c5
          try clear c5b0
          try clear c5b1
          try clear c6
          try clear p6
          try clear q6
          try clear hx6
          try clear qi6
          try clear c7
          try clear c8
          try clear c9
          try clear c10
          try clear c11
          try clear c17
          try clear c22
          try clear c23
          try clear c27
          try clear c28
          try clear c28b0
          try clear c28b1
          try clear c28b2
          try clear c29
          try clear c30
          try clear c32
          try clear c35
          try clear c37
          try clear c37b0
          try clear c37b1
          try clear c38
          try clear c39
          try clear c41
          try clear c44
          try clear c44b0
          try clear c44b1
          try clear p45
          try clear q45
          try clear hx45
          try clear qi45
          try clear c46
          try clear c47
          try clear c49
          try clear c52
          try clear c52b0
          try clear c52b1
          try clear c54
          try clear c54b0
          try clear c54b1
          try clear c55
          try clear c56
          try clear c58
          try clear c61
          try clear c61b0
          try clear c61b1
          try clear p62
          try clear q62
          try clear hx62
          try clear qi62
          try clear c63
          try clear c64
          try clear c66
          try clear c69
          try clear c70
          try clear c72
          try clear c75
          try clear c76
          try clear c78
          try clear zaC
          try clear zaD
          try clear zaE
          try clear zaF
          try clear zaW
          try clear zaX
          try clear zaY
          try clear zaZ
          try clear za8
          try clear za9
          try clear zba
          try clear zbb
          try clear zbi
          try clear zbj
          try clear zbk
          try clear zbl
          try clear zbu
          try clear zbv
          try clear zbw
          try clear zbx
          try clear zbE
          try clear zbF
          try clear zbG
          try clear zbH
          try clear zbQ
          try clear zbR
          try clear zbS
          try clear zbT
          try clear zb0
          try clear zb1
          try clear zb2
          try clear zb3
          try clear zcc
          try clear zcd
          try clear zce
          try clear zcf
          try clear zcm
          try clear zcn
          try clear zco
          try clear zcp
          try clear zcy
          try clear zcz
          try clear zcA
          try clear zcB
          try clear zcI
          try clear zcJ
          try clear zcK
          try clear zcL
          try clear zcU
          try clear zcV
          try clear zcW
          try clear zcX
          try clear zc4
          try clear zc5
          try clear zc6
          try clear zc7
          try clear zdg
          try clear zdh
          try clear zdi
          try clear zdj
          try clear zdq
          try clear zdr
          try clear zds
          try clear zdt
          try clear zam
          try clear zan
          try clear zao
          try clear zap
          try clear zaG
          try clear zaH
          try clear zaI
          try clear zaJ
          try clear za0
          try clear za1
          try clear za2
          try clear za3
          try clear zbc
          try clear zbd
          try clear zbe
          try clear zbf
          try clear zbm
          try clear zbn
          try clear zbo
          try clear zbp
          try clear zby
          try clear zbz
          try clear zbA
          try clear zbB
          try clear zbI
          try clear zbJ
          try clear zbK
          try clear zbL
          try clear zbU
          try clear zbV
          try clear zbW
          try clear zbX
          try clear zb4
          try clear zb5
          try clear zb6
          try clear zb7
          try clear zcg
          try clear zch
          try clear zci
          try clear zcj
          try clear zcq
          try clear zcr
          try clear zcs
          try clear zct
          try clear zcC
          try clear zcD
          try clear zcE
          try clear zcF
          try clear zcM
          try clear zcN
          try clear zcO
          try clear zcP
          try clear zcY
          try clear zcZ
          try clear zc0
          try clear zc1
          try clear zc8
          try clear zc9
          try clear zda
          try clear zdb
          try clear zdk
          try clear zdl
          try clear zdm
          try clear zdn
          try clear zdu
          try clear zdv
          try clear zdw
          try clear zdx
          try clear zaq
          try clear zar
          try clear zas
          try clear zat
          try clear p2
          try clear p45
          try clear p62
          try clear q45
          try clear q62
          obtain ⟨kq, x63_13, rfl, HA, HJ13, zdy, zdz, zaj, zav, zaL, HB⟩ := hcut
          cases kq with
          | zero => exact absurd HA.out (by simp [pleachlaw35_CommitTakes.j1])
          | succ kj13 =>
            have H := HA.out
            clear HA
            simp only [pleachlaw35_CommitTakes.j1] at H
            by_cases c81 : x63_13 = true
            · subst c81
              have H1 : (some false) = some r := by rw [if_pos rfl] at H; exact H
              clear H
              have H := H1
              clear H1
              obtain rfl := Option.some.inj H
              go_wp2
              go_ret
              exact M.fin (M.up HB)
            · replace c81 := Bool.eq_false_iff.mpr c81
              subst c81
              have H1 : ((commit_Put.f t290 t291 t294 t295).bind fun bt309 => (if t304 = true then (if bt309.1.toList = a0.toList then (pleachlaw35_CommitTakes.j2 kj13 (bt309.2 != 0) a1_0 l1_1 a1_2 a1_3) else (pleachlaw35_CommitTakes.j2 kj13 true a1_0 l1_1 a1_2 a1_3)) else (pleachlaw35_CommitTakes.j2 kj13 false a1_0 l1_1 a1_2 a1_3))) = some r := by rw [if_neg (show ¬ (false = true) by decide)] at H; exact H
              clear H
              have H := H1
              clear H1
              replace H := Option.bind_eq_some_iff.mp H
              obtain ⟨⟨t309, t310⟩, A820, H⟩ := H
              replace H : (if t304 = true then (if t309.toList = a0.toList then (pleachlaw35_CommitTakes.j2 kj13 (t310 != 0) a1_0 l1_1 a1_2 a1_3) else (pleachlaw35_CommitTakes.j2 kj13 true a1_0 l1_1 a1_2 a1_3)) else (pleachlaw35_CommitTakes.j2 kj13 false a1_0 l1_1 a1_2 a1_3)) = some r := H
              have A82 := Aside0.mk A820
              clear A820
              have HC83 := Aside0.mk H
              clear H
              have zdA := zaz.out
              have zdB := zay.out
              have zdC := zaQ.out
              have zdD := zaR.out
              have zdE : wc.cell? ⟨zau, 0, none⟩ = some (.int .i64 t290) := (blk_cell zav.out 0).trans rfl
              have zdF : wc.cell? ⟨zau, 1, none⟩ = some (.slice Ao19 t291.length co19) := (blk_cell zav.out 1).trans rfl
              have zdG : wc.cell? ⟨zau, 2, none⟩ = some (.string t294) := (blk_cell zav.out 2).trans rfl
              have zdH : wc.cell? ⟨zau, 3, none⟩ = some (.string t295) := (blk_cell zav.out 3).trans rfl
              have zdI := blk_frozen zav.out 0
              have zdJ := blk_frozen zav.out 1
              have zdK := blk_frozen zav.out 2
              have zdL := blk_frozen zav.out 3
              go_upto_region 8 with (first | ((with_reducible refine gate_callee (f := 13) rfl ?_); refine M.goes (some 66) Tryd.func13 #[.agg #[.int .i64 t290, .slice Ao19 t291.length co19, .string t294, .string t295]] rfl ?_; (with_reducible refine (commit_Put.calls t290 _ _ t291 t294 t295 t309 t310 _ ?side1 ?side2 A82.out).mono ?_); (case side1 => repeat (first | exact (Kd.R_reads' zdy.out).2.2 | (with_reducible refine Kd.C_alloc ?_ _) | (with_reducible refine Kd.C_drewN ?_ _) | (with_reducible refine Kd.C_drew ?_))); (case side2 => exact (Kd.R_reads' zdy.out).2.1); rintro e w87 ⟨rfl, hb⟩; refine ⟨_, rfl, ?_⟩; have n0_ := M.roB zdy hb; have n1_ := M.roB zdz hb; have n2_ := M.bkB zaj hb; have n3_ := M.bkB zav hb; have n4_ := M.bkB zaL hb; have n5_ := M.upS HB hb; clear zdy zdz zaj zav zaL HB; have zdy := n0_; have zdz := n1_; have zaj := n2_; have zav := n3_; have zaL := n4_; have HB := n5_; clear n0_ n1_ n2_ n3_ n4_ n5_; (try clear hb)))
              (try simp only [Act.put, List.setIfInBounds_toArray, List.set_cons_zero, List.set_cons_succ])
              go_cut [78] (fun v78 wc => ∃ (kq : Nat) (x78_82 : Bool), v78 = .bool x78_82 ∧ Aside0 (pleachlaw35_CommitTakes.j2 kq x78_82 a1_0 l1_1 a1_2 a1_3 = some r) ∧ Aside0 (kq ≤ kj13) ∧ Aside0 (Kd.R Kd.string 9 wc w.heap.size (fun k_ => some k_ ≠ ((.slice Ao25 t299.length co25) : Value).ownBlock) (.slice Ao19 t291.length co19) t291) ∧ Aside0 (Kd.R Kd.string 9 wc w.heap.size (fun k_ => some k_ ≠ ((.slice Ao19 t291.length co19) : Value).ownBlock) (.slice Ao25 t299.length co25) t299) ∧ Aside0 (wc.heap[zai]? = some (.cells #[.int .i64 a1_0, (.slice A1_1 l1_1.length c1_1), .string a1_2, .string a1_3] 24 (0, 0))) ∧ Aside0 (wc.heap[zau]? = some (.cells #[.int .i64 t290, (.slice Ao19 t291.length co19), .string t294, .string t295] 24 (0, 0))) ∧ Aside0 (wc.heap[zaK]? = some (.cells #[.int .i64 t298, (.slice Ao25 t299.length co25), .string t302, .string t303] 24 (0, 0))) ∧ Aside0 (Below w.heap.size w wc))
              case first =>
                have H := HC83.out
                clear HC83
                by_cases c88 : t304 = true
                · subst c88
                  have H1 : (if t309.toList = a0.toList then (pleachlaw35_CommitTakes.j2 kj13 (t310 != 0) a1_0 l1_1 a1_2 a1_3) else (pleachlaw35_CommitTakes.j2 kj13 true a1_0 l1_1 a1_2 a1_3)) = some r := by rw [if_pos rfl] at H; exact H
                  clear H
                  have H := H1
                  clear H1
                  by_cases c89 : t309.toList = a0.toList
                  · rw [if_pos c89] at H
                    have c89b0 : (t309.toList == a0.toList) = true := beq_iff_eq.mpr c89
                    have c89b1 : (t309.toList != a0.toList) = false := bne_eq_false_iff_eq.mpr c89
                    clear c89
                    (first | rw [c89b0] | (simp only [i64_w, i32_w]; rw [c89b0]) | skip)
                    have H' := Aside0.mk H
                    clear H
                    go_wp2
                    go_meet
                    case rel => exact ⟨_, ((t310 != 0)), (by first | rfl | (simp; done) | (simp [*]; done) | (simp [M.isEmpty_bne]; done)), H', ⟨by have := HJ2.out; have := HJ13.out; first | omega | exact Nat.le_refl _⟩, ⟨by (with_reducible repeat (first | apply Kd.R_alloc | apply Kd.R_drewN | apply Kd.R_drew)); exact zdy.out⟩, ⟨by (with_reducible repeat (first | apply Kd.R_alloc | apply Kd.R_drewN | apply Kd.R_drew)); exact zdz.out⟩, ⟨by (with_reducible repeat (first | refine blk_drewN ?_ _ | refine blk_drew ?_ | refine blk_alloc ?_ _)); exact zaj.out⟩, ⟨by (with_reducible repeat (first | refine blk_drewN ?_ _ | refine blk_drew ?_ | refine blk_alloc ?_ _)); exact zav.out⟩, ⟨by (with_reducible repeat (first | refine blk_drewN ?_ _ | refine blk_drew ?_ | refine blk_alloc ?_ _)); exact zaL.out⟩, ⟨M.up HB⟩⟩
                  · rw [if_neg c89] at H
                    have c89b0 : (t309.toList == a0.toList) = false := beq_eq_false_iff_ne.mpr c89
                    have c89b1 : (t309.toList != a0.toList) = true := bne_iff_ne.mpr c89
                    (first | rw [c89b0] | (simp only [i64_w, i32_w]; rw [c89b0]) | skip)
                    have H' := Aside0.mk H
                    clear H
                    go_wp2
                    go_meet
                    case rel => exact ⟨_, (true), (by first | rfl | (simp; done) | (simp [*]; done) | (simp [M.isEmpty_bne]; done)), H', ⟨by have := HJ2.out; have := HJ13.out; first | omega | exact Nat.le_refl _⟩, ⟨by (with_reducible repeat (first | apply Kd.R_alloc | apply Kd.R_drewN | apply Kd.R_drew)); exact zdy.out⟩, ⟨by (with_reducible repeat (first | apply Kd.R_alloc | apply Kd.R_drewN | apply Kd.R_drew)); exact zdz.out⟩, ⟨by (with_reducible repeat (first | refine blk_drewN ?_ _ | refine blk_drew ?_ | refine blk_alloc ?_ _)); exact zaj.out⟩, ⟨by (with_reducible repeat (first | refine blk_drewN ?_ _ | refine blk_drew ?_ | refine blk_alloc ?_ _)); exact zav.out⟩, ⟨by (with_reducible repeat (first | refine blk_drewN ?_ _ | refine blk_drew ?_ | refine blk_alloc ?_ _)); exact zaL.out⟩, ⟨M.up HB⟩⟩
                · replace c88 := Bool.eq_false_iff.mpr c88
                  subst c88
                  have H1 : (pleachlaw35_CommitTakes.j2 kj13 false a1_0 l1_1 a1_2 a1_3) = some r := by rw [if_neg (show ¬ (false = true) by decide)] at H; exact H
                  clear H
                  have H := H1
                  clear H1
                  have H' := Aside0.mk H
                  clear H
                  go_wp2
                  go_meet
                  case rel => exact ⟨_, (false), (by first | rfl | (simp; done) | (simp [*]; done) | (simp [M.isEmpty_bne]; done)), H', ⟨by have := HJ2.out; have := HJ13.out; first | omega | exact Nat.le_refl _⟩, ⟨by (with_reducible repeat (first | apply Kd.R_alloc | apply Kd.R_drewN | apply Kd.R_drew)); exact zdy.out⟩, ⟨by (with_reducible repeat (first | apply Kd.R_alloc | apply Kd.R_drewN | apply Kd.R_drew)); exact zdz.out⟩, ⟨by (with_reducible repeat (first | refine blk_drewN ?_ _ | refine blk_drew ?_ | refine blk_alloc ?_ _)); exact zaj.out⟩, ⟨by (with_reducible repeat (first | refine blk_drewN ?_ _ | refine blk_drew ?_ | refine blk_alloc ?_ _)); exact zav.out⟩, ⟨by (with_reducible repeat (first | refine blk_drewN ?_ _ | refine blk_drew ?_ | refine blk_alloc ?_ _)); exact zaL.out⟩, ⟨M.up HB⟩⟩
              case rest =>
                clear HC83
                try clear c1
                try clear c2
                try clear p2
                try clear c3
                try clear c4
                try clear p4
                try clear q4
                try clear hx4
                try clear qi4
                try clear c5
                try clear c5b0
                try clear c5b1
                try clear c6
                try clear p6
                try clear q6
                try clear hx6
                try clear qi6
                try clear c7
                try clear c8
                try clear c9
                try clear c10
                try clear c11
                try clear c13
                try clear c17
                try clear c22
                try clear c23
                try clear c27
                try clear c28
                try clear c28b0
                try clear c28b1
                try clear c28b2
                try clear c29
                try clear c30
                try clear c32
                try clear c35
                try clear c37
                try clear c37b0
                try clear c37b1
                try clear c38
                try clear c39
                try clear c41
                try clear c44
                try clear c44b0
                try clear c44b1
                try clear p45
                try clear q45
                try clear hx45
                try clear qi45
                try clear c46
                try clear c47
                try clear c49
                try clear c52
                try clear c52b0
                try clear c52b1
                try clear c54
                try clear c54b0
                try clear c54b1
                try clear c55
                try clear c56
                try clear c58
                try clear c61
                try clear c61b0
                try clear c61b1
                try clear p62
                try clear q62
                try clear hx62
                try clear qi62
                try clear c63
                try clear c64
                try clear c66
                try clear c69
                try clear c70
                try clear c72
                try clear c75
                try clear c76
                try clear c78
                try clear c81
                try clear c84
                try clear c85
                try clear c88
                try clear c89
                try clear c89b0
                try clear c89b1
                try clear zaC
                try clear zaD
                try clear zaE
                try clear zaF
                try clear zaW
                try clear zaX
                try clear zaY
                try clear zaZ
                try clear za8
                try clear za9
                try clear zba
                try clear zbb
                try clear zbi
                try clear zbj
                try clear zbk
                try clear zbl
                try clear zbu
                try clear zbv
                try clear zbw
                try clear zbx
                try clear zbE
                try clear zbF
                try clear zbG
                try clear zbH
                try clear zbQ
                try clear zbR
                try clear zbS
                try clear zbT
                try clear zb0
                try clear zb1
                try clear zb2
                try clear zb3
                try clear zcc
                try clear zcd
                try clear zce
                try clear zcf
                try clear zcm
                try clear zcn
                try clear zco
                try clear zcp
                try clear zcy
                try clear zcz
                try clear zcA
                try clear zcB
                try clear zcI
                try clear zcJ
                try clear zcK
                try clear zcL
                try clear zcU
                try clear zcV
                try clear zcW
                try clear zcX
                try clear zc4
                try clear zc5
                try clear zc6
                try clear zc7
                try clear zdg
                try clear zdh
                try clear zdi
                try clear zdj
                try clear zdq
                try clear zdr
                try clear zds
                try clear zdt
                try clear zam
                try clear zan
                try clear zao
                try clear zap
                try clear zdE
                try clear zdF
                try clear zdG
                try clear zdH
                try clear zaG
                try clear zaH
                try clear zaI
                try clear zaJ
                try clear za0
                try clear za1
                try clear za2
                try clear za3
                try clear zbc
                try clear zbd
                try clear zbe
                try clear zbf
                try clear zbm
                try clear zbn
                try clear zbo
                try clear zbp
                try clear zby
                try clear zbz
                try clear zbA
                try clear zbB
                try clear zbI
                try clear zbJ
                try clear zbK
                try clear zbL
                try clear zbU
                try clear zbV
                try clear zbW
                try clear zbX
                try clear zb4
                try clear zb5
                try clear zb6
                try clear zb7
                try clear zcg
                try clear zch
                try clear zci
                try clear zcj
                try clear zcq
                try clear zcr
                try clear zcs
                try clear zct
                try clear zcC
                try clear zcD
                try clear zcE
                try clear zcF
                try clear zcM
                try clear zcN
                try clear zcO
                try clear zcP
                try clear zcY
                try clear zcZ
                try clear zc0
                try clear zc1
                try clear zc8
                try clear zc9
                try clear zda
                try clear zdb
                try clear zdk
                try clear zdl
                try clear zdm
                try clear zdn
                try clear zdu
                try clear zdv
                try clear zdw
                try clear zdx
                try clear zaq
                try clear zar
                try clear zas
                try clear zat
                try clear zdI
                try clear zdJ
                try clear zdK
                try clear zdL
                try clear p2
                try clear p4
                try clear p45
                try clear p6
                try clear p62
                try clear q4
                try clear q45
                try clear q6
                try clear q62
                obtain ⟨kq, x78_82, rfl, HA, HJ82, zdy, zdz, zaj, zav, zaL, HB⟩ := hcut
                cases kq with
                | zero => exact absurd HA.out (by simp [pleachlaw35_CommitTakes.j2])
                | succ kj82 =>
                  have H := HA.out
                  clear HA
                  simp only [pleachlaw35_CommitTakes.j2] at H
                  by_cases c90 : x78_82 = true
                  · subst c90
                    have H1 : (some false) = some r := by rw [if_pos rfl] at H; exact H
                    clear H
                    have H := H1
                    clear H1
                    obtain rfl := Option.some.inj H
                    go_wp2
                    go_ret
                    exact M.fin (M.up HB)
                  · replace c90 := Bool.eq_false_iff.mpr c90
                    subst c90
                    have H1 : ((commit_Put.f a1_0 l1_1 a1_2 a1_3).bind fun bt311 => (if bt311.2 = 0 then ((commit_Take.f bt311.1).bind fun bt314 => ((pleachref35_Same.f a1_0 l1_1 a1_2 a1_3 bt314.1 bt314.2.1 bt314.2.2.1 bt314.2.2.2.1).bind fun t322 => (if t322 = true then (if bt314.2.2.2.2 = 0 then ((pleachlaw35_awake.f).bind fun t323 => (some t323)) else (some false)) else (some false)))) else ((pleachlaw35_awake.f).bind fun t313 => (some t313)))) = some r := by rw [if_neg (show ¬ (false = true) by decide)] at H; exact H
                    clear H
                    have H := H1
                    clear H1
                    replace H := Option.bind_eq_some_iff.mp H
                    obtain ⟨⟨t311, t312⟩, A910, H⟩ := H
                    replace H : (if t312 = 0 then ((commit_Take.f t311).bind fun bt314 => ((pleachref35_Same.f a1_0 l1_1 a1_2 a1_3 bt314.1 bt314.2.1 bt314.2.2.1 bt314.2.2.2.1).bind fun t322 => (if t322 = true then (if bt314.2.2.2.2 = 0 then ((pleachlaw35_awake.f).bind fun t323 => (some t323)) else (some false)) else (some false)))) else ((pleachlaw35_awake.f).bind fun t313 => (some t313))) = some r := H
                    have A91 := Aside0.mk A910
                    clear A910
                    by_cases c92 : t312 = 0
                    · rw [if_pos c92] at H
                      have c92b0 : (t312 == 0) = true := beq_iff_eq.mpr c92
                      have c92b1 : (t312 != 0) = false := bne_eq_false_iff_eq.mpr c92
                      clear c92
                      replace H := Option.bind_eq_some_iff.mp H
                      obtain ⟨⟨t314, t315, t318, t319, t320⟩, A930, H⟩ := H
                      replace H : ((pleachref35_Same.f a1_0 l1_1 a1_2 a1_3 t314 t315 t318 t319).bind fun t322 => (if t322 = true then (if t320 = 0 then ((pleachlaw35_awake.f).bind fun t323 => (some t323)) else (some false)) else (some false))) = some r := H
                      have A93 := Aside0.mk A930
                      clear A930
                      replace H := Option.bind_eq_some_iff.mp H
                      obtain ⟨t322, A940, H⟩ := H
                      replace H : (if t322 = true then (if t320 = 0 then ((pleachlaw35_awake.f).bind fun t323 => (some t323)) else (some false)) else (some false)) = some r := H
                      have A94 := Aside0.mk A940
                      clear A940
                      by_cases c95 : t322 = true
                      · subst c95
                        have H1 : (if t320 = 0 then ((pleachlaw35_awake.f).bind fun t323 => (some t323)) else (some false)) = some r := by rw [if_pos rfl] at H; exact H
                        clear H
                        have H := H1
                        clear H1
                        by_cases c96 : t320 = 0
                        · rw [if_pos c96] at H
                          have c96b0 : (t320 == 0) = true := beq_iff_eq.mpr c96
                          have c96b1 : (t320 != 0) = false := bne_eq_false_iff_eq.mpr c96
                          clear c96
                          replace H := Option.bind_eq_some_iff.mp H
                          obtain ⟨t323, A970, H⟩ := H
                          replace H : (some t323) = some r := H
                          have A97 := Aside0.mk A970
                          clear A970
                          obtain rfl := Option.some.inj H
                          have zdM := zay.out
                          have zdN := zaz.out
                          have zdO := zaO.out
                          have zdP := zaP.out
                          have zdQ : wc.cell? ⟨zai, 0, none⟩ = some (.int .i64 a1_0) := (blk_cell zaj.out 0).trans rfl
                          have zdR : wc.cell? ⟨zai, 1, none⟩ = some (.slice A1_1 l1_1.length c1_1) := (blk_cell zaj.out 1).trans rfl
                          have zdS : wc.cell? ⟨zai, 2, none⟩ = some (.string a1_2) := (blk_cell zaj.out 2).trans rfl
                          have zdT : wc.cell? ⟨zai, 3, none⟩ = some (.string a1_3) := (blk_cell zaj.out 3).trans rfl
                          have zdU := blk_frozen zaj.out 0
                          have zdV := blk_frozen zaj.out 1
                          have zdW := blk_frozen zaj.out 2
                          have zdX := blk_frozen zaj.out 3
                          go_wp2_with (first | ((with_reducible refine gate_callee (f := 13) rfl ?_); refine M.goes (some 81) Tryd.func13 #[.agg #[.int .i64 a1_0, .slice A1_1 l1_1.length c1_1, .string a1_2, .string a1_3]] rfl ?_; (with_reducible refine (commit_Put.calls a1_0 _ _ l1_1 a1_2 a1_3 t311 t312 _ ?side1 ?side2 A91.out).mono ?_); (case side1 => exact M.cB HR1_1 HB); (case side2 => exact HC1_1.out); rintro e w101 ⟨rfl, hb⟩; refine ⟨_, rfl, ?_⟩; have n0_ := M.roB zdy hb; have n1_ := M.roB zdz hb; have n2_ := M.bkB zaj hb; have n3_ := M.bkB zav hb; have n4_ := M.bkB zaL hb; have n5_ := M.upS HB hb; clear zdy zdz zaj zav zaL HB; have zdy := n0_; have zdz := n1_; have zaj := n2_; have zav := n3_; have zaL := n4_; have HB := n5_; clear n0_ n1_ n2_ n3_ n4_ n5_; (try clear hb)) | ((with_reducible refine gate_callee (f := 9) rfl ?_); refine M.goes (some 89) Tryd.func9 #[.string t311] rfl ?_; (with_reducible refine (commit_Take.calls t311 t314 t315 t318 t319 t320 _ A93.out).mono ?_); rintro e w102 ⟨v316, rfl, ho0, hb⟩; refine ⟨_, rfl, ?_⟩; have n0_ := Aside0.mk (Kd.R_elder' (M.ro zdy) (Kd.R_base ho0) hb); have n1_ := Aside0.mk (Kd.R_elder' (M.ro zdz) (Kd.R_base ho0) hb); have n2_ := Aside0.mk (Kd.R_lower (Kd.R_new' (Kd.R_new' ho0 (Kd.R_lt (M.ro zdy))) (Kd.R_lt (M.ro zdz))) (below_size (M.up HB))); have n3_ := M.bkB zaj hb; have n4_ := M.bkB zav hb; have n5_ := M.bkB zaL hb; have n6_ := M.upS HB hb; clear zdy zdz zaj zav zaL HB; have zdy := n0_; have zdz := n1_; have HO317 := n2_; have zaj := n3_; have zav := n4_; have zaL := n5_; have HB := n6_; clear n0_ n1_ n2_ n3_ n4_ n5_ n6_; (try clear hb); (try clear ho0)) | ((with_reducible refine gate_dst (N := 13) rfl ?_); refine box_event ?hg (N := 13) ?hd (cs := #[.int .i64 0, .slice none 0 0, .string (⟨#[]⟩ : ByteArray), .string (⟨#[]⟩ : ByteArray)]) (t := 24) ?hr ?_; (case hd => rfl); (case hg => rfl); (case hr => first | (go_simp; done) | (go_simp; rfl)); intro zdY hg w103 hbox hb; have n0_ := M.roB zdy hb; have n1_ := M.roB zdz hb; have n2_ := M.roB HO317 hb; have n3_ := M.bkB zaj hb; have n4_ := M.bkB zav hb; have n5_ := M.bkB zaL hb; have n6_ := M.upS HB hb; have n7_ := Aside0.mk (hbox); have n8_ := M.upG HB hg; have n9_ := M.upG HB hg; have n10_ := M.bkL zaj hg; have n11_ := M.bkG zaj hg; have n12_ := M.bkL zav hg; have n13_ := M.bkG zav hg; have n14_ := M.bkL zaL hg; have n15_ := M.bkG zaL hg; clear zdy zdz HO317 zaj zav zaL HB; have zdy := n0_; have zdz := n1_; have HO317 := n2_; have zaj := n3_; have zav := n4_; have zaL := n5_; have HB := n6_; have zdZ := n7_; have zd0 := n8_; have zd1 := n9_; have zd2 := n10_; have zd3 := n11_; have zd4 := n12_; have zd5 := n13_; have zd6 := n14_; have zd7 := n15_; clear n0_ n1_ n2_ n3_ n4_ n5_ n6_ n7_ n8_ n9_ n10_ n11_ n12_ n13_ n14_ n15_; clear hb hbox hg; have zd8 := zd3.out; have zd9 := zd2.out; have zea := zd5.out; have zeb := zd4.out; have zec := zd7.out; have zed := zd6.out; have zee : w103.cell? ⟨zdY, 0, none⟩ = some (.int .i64 0) := (blk_cell zdZ.out 0).trans rfl; have zef : w103.cell? ⟨zdY, 1, none⟩ = some (.slice none 0 0) := (blk_cell zdZ.out 1).trans rfl; have zeg : w103.cell? ⟨zdY, 2, none⟩ = some (.string (⟨#[]⟩ : ByteArray)) := (blk_cell zdZ.out 2).trans rfl; have zeh : w103.cell? ⟨zdY, 3, none⟩ = some (.string (⟨#[]⟩ : ByteArray)) := (blk_cell zdZ.out 3).trans rfl; have zei := blk_frozen zdZ.out 0; have zej := blk_frozen zdZ.out 1; have zek := blk_frozen zdZ.out 2; have zel := blk_frozen zdZ.out 3; obtain ⟨Ao108, co108, eo108⟩ := Kd.R_slice HO317.out; subst eo108; have zem : w103.cell? ⟨zai, 0, none⟩ = some (.int .i64 a1_0) := (blk_cell zaj.out 0).trans rfl; have zen : w103.cell? ⟨zai, 1, none⟩ = some (.slice A1_1 l1_1.length c1_1) := (blk_cell zaj.out 1).trans rfl; have zeo : w103.cell? ⟨zai, 2, none⟩ = some (.string a1_2) := (blk_cell zaj.out 2).trans rfl; have zep : w103.cell? ⟨zai, 3, none⟩ = some (.string a1_3) := (blk_cell zaj.out 3).trans rfl; have zeq := blk_frozen zaj.out 0; have zer := blk_frozen zaj.out 1; have zes := blk_frozen zaj.out 2; have zet := blk_frozen zaj.out 3) | ((with_reducible refine gate_callee (f := 11) rfl ?_); refine M.goes (some 94) Tryd.func11 #[.agg #[.int .i64 a1_0, .slice A1_1 l1_1.length c1_1, .string a1_2, .string a1_3], .agg #[.int .i64 t314, .slice Ao108 t315.length co108, .string t318, .string t319]] rfl ?_; (with_reducible refine (pleachref35_Same.calls a1_0 _ _ l1_1 a1_2 a1_3 t314 _ _ t315 t318 t319 true _ ?side1 ?side2 ?side3 ?side4 A94.out).mono ?_); (case side1 => exact Kd.C_below HR1_1.out (M.up HB)); (case side2 => exact HC1_1.out); (case side3 => refine (Kd.R_reads' (e := 9) (base := w.heap.size) (ok := fun k_ => ((True ∧ some k_ ≠ (.slice Ao19 t291.length co19 : Value).ownBlock) ∧ some k_ ≠ (.slice Ao25 t299.length co25 : Value).ownBlock)) (n := t315.length) (c := co108) ?_).2.2; exact (by (with_reducible repeat (first | apply Kd.R_alloc | apply Kd.R_drewN | apply Kd.R_drew)); exact (Kd.R_mono (Kd.R_far (p := ⟨zdY, 3, none⟩) (Kd.R_far (p := ⟨zdY, 2, none⟩) (Kd.R_far (p := ⟨zdY, 1, none⟩) (Kd.R_far (p := ⟨zdY, 0, none⟩) (Kd.R_types HO317.out zdZ.out (by decide)) (fun _ hk => hk.2) (.int .i64 t314)) (fun _ hk => hk.2) (.slice Ao108 t315.length co108)) (fun _ hk => hk.2) (.string t318)) (fun _ hk => hk.2) (.string t319)) (fun _ h_ => h_.1)))); (case side4 => exact (Kd.R_reads' HO317.out).2.1); rintro e w110 ⟨rfl, hb⟩; refine ⟨_, rfl, ?_⟩; have n0_ := Aside0.mk (Kd.R_below (by (with_reducible repeat (first | apply Kd.R_alloc | apply Kd.R_drewN | apply Kd.R_drew)); exact (Kd.R_mono (Kd.R_far (p := ⟨zdY, 3, none⟩) (Kd.R_far (p := ⟨zdY, 2, none⟩) (Kd.R_far (p := ⟨zdY, 1, none⟩) (Kd.R_far (p := ⟨zdY, 0, none⟩) (Kd.R_types zdy.out zdZ.out (by decide)) (fun _ hk => hk.2) (.int .i64 t314)) (fun _ hk => hk.2) (.slice Ao108 t315.length co108)) (fun _ hk => hk.2) (.string t318)) (fun _ hk => hk.2) (.string t319)) (fun _ h_ => h_.1))) hb); have n1_ := Aside0.mk (Kd.R_below (by (with_reducible repeat (first | apply Kd.R_alloc | apply Kd.R_drewN | apply Kd.R_drew)); exact (Kd.R_mono (Kd.R_far (p := ⟨zdY, 3, none⟩) (Kd.R_far (p := ⟨zdY, 2, none⟩) (Kd.R_far (p := ⟨zdY, 1, none⟩) (Kd.R_far (p := ⟨zdY, 0, none⟩) (Kd.R_types zdz.out zdZ.out (by decide)) (fun _ hk => hk.2) (.int .i64 t314)) (fun _ hk => hk.2) (.slice Ao108 t315.length co108)) (fun _ hk => hk.2) (.string t318)) (fun _ hk => hk.2) (.string t319)) (fun _ h_ => h_.1))) hb); have n2_ := Aside0.mk (Kd.R_below (by (with_reducible repeat (first | apply Kd.R_alloc | apply Kd.R_drewN | apply Kd.R_drew)); exact (Kd.R_mono (Kd.R_far (p := ⟨zdY, 3, none⟩) (Kd.R_far (p := ⟨zdY, 2, none⟩) (Kd.R_far (p := ⟨zdY, 1, none⟩) (Kd.R_far (p := ⟨zdY, 0, none⟩) (Kd.R_types HO317.out zdZ.out (by decide)) (fun _ hk => hk.2) (.int .i64 t314)) (fun _ hk => hk.2) (.slice Ao108 t315.length co108)) (fun _ hk => hk.2) (.string t318)) (fun _ hk => hk.2) (.string t319)) (fun _ h_ => h_.1))) hb); have n3_ := Aside0.mk (blk_below (g := zai) (o := .cells #[.int .i64 a1_0, .slice A1_1 l1_1.length c1_1, .string a1_2, .string a1_3] 24 (0, 0)) (by (with_reducible repeat (first | refine blk_drewN ?_ _ | refine blk_drew ?_ | refine blk_alloc ?_ _)); refine blk_far ?_ zd2.out _; (with_reducible repeat (first | refine blk_drewN ?_ _ | refine blk_drew ?_ | refine blk_alloc ?_ _)); refine blk_far ?_ zd2.out _; (with_reducible repeat (first | refine blk_drewN ?_ _ | refine blk_drew ?_ | refine blk_alloc ?_ _)); refine blk_far ?_ zd2.out _; (with_reducible repeat (first | refine blk_drewN ?_ _ | refine blk_drew ?_ | refine blk_alloc ?_ _)); refine blk_far ?_ zd2.out _; (with_reducible repeat (first | refine blk_drewN ?_ _ | refine blk_drew ?_ | refine blk_alloc ?_ _)); exact zaj.out) hb); have n4_ := Aside0.mk (blk_below (g := zau) (o := .cells #[.int .i64 t290, .slice Ao19 t291.length co19, .string t294, .string t295] 24 (0, 0)) (by (with_reducible repeat (first | refine blk_drewN ?_ _ | refine blk_drew ?_ | refine blk_alloc ?_ _)); refine blk_far ?_ zd4.out _; (with_reducible repeat (first | refine blk_drewN ?_ _ | refine blk_drew ?_ | refine blk_alloc ?_ _)); refine blk_far ?_ zd4.out _; (with_reducible repeat (first | refine blk_drewN ?_ _ | refine blk_drew ?_ | refine blk_alloc ?_ _)); refine blk_far ?_ zd4.out _; (with_reducible repeat (first | refine blk_drewN ?_ _ | refine blk_drew ?_ | refine blk_alloc ?_ _)); refine blk_far ?_ zd4.out _; (with_reducible repeat (first | refine blk_drewN ?_ _ | refine blk_drew ?_ | refine blk_alloc ?_ _)); exact zav.out) hb); have n5_ := Aside0.mk (blk_below (g := zaK) (o := .cells #[.int .i64 t298, .slice Ao25 t299.length co25, .string t302, .string t303] 24 (0, 0)) (by (with_reducible repeat (first | refine blk_drewN ?_ _ | refine blk_drew ?_ | refine blk_alloc ?_ _)); refine blk_far ?_ zd6.out _; (with_reducible repeat (first | refine blk_drewN ?_ _ | refine blk_drew ?_ | refine blk_alloc ?_ _)); refine blk_far ?_ zd6.out _; (with_reducible repeat (first | refine blk_drewN ?_ _ | refine blk_drew ?_ | refine blk_alloc ?_ _)); refine blk_far ?_ zd6.out _; (with_reducible repeat (first | refine blk_drewN ?_ _ | refine blk_drew ?_ | refine blk_alloc ?_ _)); refine blk_far ?_ zd6.out _; (with_reducible repeat (first | refine blk_drewN ?_ _ | refine blk_drew ?_ | refine blk_alloc ?_ _)); exact zaL.out) hb); have n6_ := Aside0.mk (blk_below (g := zdY) (o := .cells #[.int .i64 t314, .slice Ao108 t315.length co108, .string t318, .string t319] 24 (0, 0)) (by (with_reducible repeat (first | refine blk_drewN ?_ _ | refine blk_drew ?_ | refine blk_alloc ?_ _)); refine blk_put (cs := #[.int .i64 t314, .slice Ao108 t315.length co108, .string t318, .string (⟨#[]⟩ : ByteArray)]) ?_ 3 _ rfl; (with_reducible repeat (first | refine blk_drewN ?_ _ | refine blk_drew ?_ | refine blk_alloc ?_ _)); refine blk_put (cs := #[.int .i64 t314, .slice Ao108 t315.length co108, .string (⟨#[]⟩ : ByteArray), .string (⟨#[]⟩ : ByteArray)]) ?_ 2 _ rfl; (with_reducible repeat (first | refine blk_drewN ?_ _ | refine blk_drew ?_ | refine blk_alloc ?_ _)); refine blk_put (cs := #[.int .i64 t314, .slice none 0 0, .string (⟨#[]⟩ : ByteArray), .string (⟨#[]⟩ : ByteArray)]) ?_ 1 _ rfl; (with_reducible repeat (first | refine blk_drewN ?_ _ | refine blk_drew ?_ | refine blk_alloc ?_ _)); refine blk_put (cs := #[.int .i64 0, .slice none 0 0, .string (⟨#[]⟩ : ByteArray), .string (⟨#[]⟩ : ByteArray)]) ?_ 0 _ rfl; (with_reducible repeat (first | refine blk_drewN ?_ _ | refine blk_drew ?_ | refine blk_alloc ?_ _)); exact zdZ.out) hb); have n7_ := M.upS HB hb; clear zdy zdz HO317 zaj zav zaL zdZ HB; have zdy := n0_; have zdz := n1_; have HO317 := n2_; have zaj := n3_; have zav := n4_; have zaL := n5_; have zdZ := n6_; have HB := n7_; clear n0_ n1_ n2_ n3_ n4_ n5_ n6_ n7_; (try clear hb)) | (go_at_call 8; (with_reducible refine (pleachlaw35_awake.calls  t323 _ A97.out (hT := M.stab_up HT (M.up HB))).mono ?_); rintro e w111 ⟨rfl, hb⟩; have n0_ := M.roB zdy hb; have n1_ := M.roB zdz hb; have n2_ := M.roB HO317 hb; have n3_ := M.bkB zaj hb; have n4_ := M.bkB zav hb; have n5_ := M.bkB zaL hb; have n6_ := M.bkB zdZ hb; have n7_ := M.upS HB hb; clear zdy zdz HO317 zaj zav zaL zdZ HB; have zdy := n0_; have zdz := n1_; have HO317 := n2_; have zaj := n3_; have zav := n4_; have zaL := n5_; have zdZ := n6_; have HB := n7_; clear n0_ n1_ n2_ n3_ n4_ n5_ n6_ n7_; (try clear hb); (try clear hb2); (try clear hk); (try clear hi)))
                          go_ret
                          exact M.fin (M.up HB)
                        · rw [if_neg c96] at H
                          have c96b0 : (t320 == 0) = false := beq_eq_false_iff_ne.mpr c96
                          have c96b1 : (t320 != 0) = true := bne_iff_ne.mpr c96
                          obtain rfl := Option.some.inj H
                          have zeu := zay.out
                          have zev := zaz.out
                          have zew := zaO.out
                          have zex := zaP.out
                          have zey : wc.cell? ⟨zai, 0, none⟩ = some (.int .i64 a1_0) := (blk_cell zaj.out 0).trans rfl
                          have zez : wc.cell? ⟨zai, 1, none⟩ = some (.slice A1_1 l1_1.length c1_1) := (blk_cell zaj.out 1).trans rfl
                          have zeA : wc.cell? ⟨zai, 2, none⟩ = some (.string a1_2) := (blk_cell zaj.out 2).trans rfl
                          have zeB : wc.cell? ⟨zai, 3, none⟩ = some (.string a1_3) := (blk_cell zaj.out 3).trans rfl
                          have zeC := blk_frozen zaj.out 0
                          have zeD := blk_frozen zaj.out 1
                          have zeE := blk_frozen zaj.out 2
                          have zeF := blk_frozen zaj.out 3
                          go_wp2_with (first | ((with_reducible refine gate_callee (f := 13) rfl ?_); refine M.goes (some 81) Tryd.func13 #[.agg #[.int .i64 a1_0, .slice A1_1 l1_1.length c1_1, .string a1_2, .string a1_3]] rfl ?_; (with_reducible refine (commit_Put.calls a1_0 _ _ l1_1 a1_2 a1_3 t311 t312 _ ?side1 ?side2 A91.out).mono ?_); (case side1 => exact M.cB HR1_1 HB); (case side2 => exact HC1_1.out); rintro e w115 ⟨rfl, hb⟩; refine ⟨_, rfl, ?_⟩; have n0_ := M.roB zdy hb; have n1_ := M.roB zdz hb; have n2_ := M.bkB zaj hb; have n3_ := M.bkB zav hb; have n4_ := M.bkB zaL hb; have n5_ := M.upS HB hb; clear zdy zdz zaj zav zaL HB; have zdy := n0_; have zdz := n1_; have zaj := n2_; have zav := n3_; have zaL := n4_; have HB := n5_; clear n0_ n1_ n2_ n3_ n4_ n5_; (try clear hb)) | ((with_reducible refine gate_callee (f := 9) rfl ?_); refine M.goes (some 89) Tryd.func9 #[.string t311] rfl ?_; (with_reducible refine (commit_Take.calls t311 t314 t315 t318 t319 t320 _ A93.out).mono ?_); rintro e w116 ⟨v316, rfl, ho0, hb⟩; refine ⟨_, rfl, ?_⟩; have n0_ := Aside0.mk (Kd.R_elder' (M.ro zdy) (Kd.R_base ho0) hb); have n1_ := Aside0.mk (Kd.R_elder' (M.ro zdz) (Kd.R_base ho0) hb); have n2_ := Aside0.mk (Kd.R_lower (Kd.R_new' (Kd.R_new' ho0 (Kd.R_lt (M.ro zdy))) (Kd.R_lt (M.ro zdz))) (below_size (M.up HB))); have n3_ := M.bkB zaj hb; have n4_ := M.bkB zav hb; have n5_ := M.bkB zaL hb; have n6_ := M.upS HB hb; clear zdy zdz zaj zav zaL HB; have zdy := n0_; have zdz := n1_; have HO317 := n2_; have zaj := n3_; have zav := n4_; have zaL := n5_; have HB := n6_; clear n0_ n1_ n2_ n3_ n4_ n5_ n6_; (try clear hb); (try clear ho0)) | ((with_reducible refine gate_dst (N := 13) rfl ?_); refine box_event ?hg (N := 13) ?hd (cs := #[.int .i64 0, .slice none 0 0, .string (⟨#[]⟩ : ByteArray), .string (⟨#[]⟩ : ByteArray)]) (t := 24) ?hr ?_; (case hd => rfl); (case hg => rfl); (case hr => first | (go_simp; done) | (go_simp; rfl)); intro zdY hg w117 hbox hb; have n0_ := M.roB zdy hb; have n1_ := M.roB zdz hb; have n2_ := M.roB HO317 hb; have n3_ := M.bkB zaj hb; have n4_ := M.bkB zav hb; have n5_ := M.bkB zaL hb; have n6_ := M.upS HB hb; have n7_ := Aside0.mk (hbox); have n8_ := M.upG HB hg; have n9_ := M.upG HB hg; have n10_ := M.bkL zaj hg; have n11_ := M.bkG zaj hg; have n12_ := M.bkL zav hg; have n13_ := M.bkG zav hg; have n14_ := M.bkL zaL hg; have n15_ := M.bkG zaL hg; clear zdy zdz HO317 zaj zav zaL HB; have zdy := n0_; have zdz := n1_; have HO317 := n2_; have zaj := n3_; have zav := n4_; have zaL := n5_; have HB := n6_; have zdZ := n7_; have zd0 := n8_; have zd1 := n9_; have zd2 := n10_; have zd3 := n11_; have zd4 := n12_; have zd5 := n13_; have zd6 := n14_; have zd7 := n15_; clear n0_ n1_ n2_ n3_ n4_ n5_ n6_ n7_ n8_ n9_ n10_ n11_ n12_ n13_ n14_ n15_; clear hb hbox hg; have zeG := zd3.out; have zeH := zd2.out; have zeI := zd5.out; have zeJ := zd4.out; have zeK := zd7.out; have zeL := zd6.out; have zeM : w117.cell? ⟨zdY, 0, none⟩ = some (.int .i64 0) := (blk_cell zdZ.out 0).trans rfl; have zeN : w117.cell? ⟨zdY, 1, none⟩ = some (.slice none 0 0) := (blk_cell zdZ.out 1).trans rfl; have zeO : w117.cell? ⟨zdY, 2, none⟩ = some (.string (⟨#[]⟩ : ByteArray)) := (blk_cell zdZ.out 2).trans rfl; have zeP : w117.cell? ⟨zdY, 3, none⟩ = some (.string (⟨#[]⟩ : ByteArray)) := (blk_cell zdZ.out 3).trans rfl; have zeQ := blk_frozen zdZ.out 0; have zeR := blk_frozen zdZ.out 1; have zeS := blk_frozen zdZ.out 2; have zeT := blk_frozen zdZ.out 3; obtain ⟨Ao122, co122, eo122⟩ := Kd.R_slice HO317.out; subst eo122; have zeU : w117.cell? ⟨zai, 0, none⟩ = some (.int .i64 a1_0) := (blk_cell zaj.out 0).trans rfl; have zeV : w117.cell? ⟨zai, 1, none⟩ = some (.slice A1_1 l1_1.length c1_1) := (blk_cell zaj.out 1).trans rfl; have zeW : w117.cell? ⟨zai, 2, none⟩ = some (.string a1_2) := (blk_cell zaj.out 2).trans rfl; have zeX : w117.cell? ⟨zai, 3, none⟩ = some (.string a1_3) := (blk_cell zaj.out 3).trans rfl; have zeY := blk_frozen zaj.out 0; have zeZ := blk_frozen zaj.out 1; have ze0 := blk_frozen zaj.out 2; have ze1 := blk_frozen zaj.out 3) | ((with_reducible refine gate_callee (f := 11) rfl ?_); refine M.goes (some 94) Tryd.func11 #[.agg #[.int .i64 a1_0, .slice A1_1 l1_1.length c1_1, .string a1_2, .string a1_3], .agg #[.int .i64 t314, .slice Ao122 t315.length co122, .string t318, .string t319]] rfl ?_; (with_reducible refine (pleachref35_Same.calls a1_0 _ _ l1_1 a1_2 a1_3 t314 _ _ t315 t318 t319 true _ ?side1 ?side2 ?side3 ?side4 A94.out).mono ?_); (case side1 => exact Kd.C_below HR1_1.out (M.up HB)); (case side2 => exact HC1_1.out); (case side3 => refine (Kd.R_reads' (e := 9) (base := w.heap.size) (ok := fun k_ => ((True ∧ some k_ ≠ (.slice Ao19 t291.length co19 : Value).ownBlock) ∧ some k_ ≠ (.slice Ao25 t299.length co25 : Value).ownBlock)) (n := t315.length) (c := co122) ?_).2.2; exact (by (with_reducible repeat (first | apply Kd.R_alloc | apply Kd.R_drewN | apply Kd.R_drew)); exact (Kd.R_mono (Kd.R_far (p := ⟨zdY, 3, none⟩) (Kd.R_far (p := ⟨zdY, 2, none⟩) (Kd.R_far (p := ⟨zdY, 1, none⟩) (Kd.R_far (p := ⟨zdY, 0, none⟩) (Kd.R_types HO317.out zdZ.out (by decide)) (fun _ hk => hk.2) (.int .i64 t314)) (fun _ hk => hk.2) (.slice Ao122 t315.length co122)) (fun _ hk => hk.2) (.string t318)) (fun _ hk => hk.2) (.string t319)) (fun _ h_ => h_.1)))); (case side4 => exact (Kd.R_reads' HO317.out).2.1); rintro e w124 ⟨rfl, hb⟩; refine ⟨_, rfl, ?_⟩; have n0_ := Aside0.mk (Kd.R_below (by (with_reducible repeat (first | apply Kd.R_alloc | apply Kd.R_drewN | apply Kd.R_drew)); exact (Kd.R_mono (Kd.R_far (p := ⟨zdY, 3, none⟩) (Kd.R_far (p := ⟨zdY, 2, none⟩) (Kd.R_far (p := ⟨zdY, 1, none⟩) (Kd.R_far (p := ⟨zdY, 0, none⟩) (Kd.R_types zdy.out zdZ.out (by decide)) (fun _ hk => hk.2) (.int .i64 t314)) (fun _ hk => hk.2) (.slice Ao122 t315.length co122)) (fun _ hk => hk.2) (.string t318)) (fun _ hk => hk.2) (.string t319)) (fun _ h_ => h_.1))) hb); have n1_ := Aside0.mk (Kd.R_below (by (with_reducible repeat (first | apply Kd.R_alloc | apply Kd.R_drewN | apply Kd.R_drew)); exact (Kd.R_mono (Kd.R_far (p := ⟨zdY, 3, none⟩) (Kd.R_far (p := ⟨zdY, 2, none⟩) (Kd.R_far (p := ⟨zdY, 1, none⟩) (Kd.R_far (p := ⟨zdY, 0, none⟩) (Kd.R_types zdz.out zdZ.out (by decide)) (fun _ hk => hk.2) (.int .i64 t314)) (fun _ hk => hk.2) (.slice Ao122 t315.length co122)) (fun _ hk => hk.2) (.string t318)) (fun _ hk => hk.2) (.string t319)) (fun _ h_ => h_.1))) hb); have n2_ := Aside0.mk (Kd.R_below (by (with_reducible repeat (first | apply Kd.R_alloc | apply Kd.R_drewN | apply Kd.R_drew)); exact (Kd.R_mono (Kd.R_far (p := ⟨zdY, 3, none⟩) (Kd.R_far (p := ⟨zdY, 2, none⟩) (Kd.R_far (p := ⟨zdY, 1, none⟩) (Kd.R_far (p := ⟨zdY, 0, none⟩) (Kd.R_types HO317.out zdZ.out (by decide)) (fun _ hk => hk.2) (.int .i64 t314)) (fun _ hk => hk.2) (.slice Ao122 t315.length co122)) (fun _ hk => hk.2) (.string t318)) (fun _ hk => hk.2) (.string t319)) (fun _ h_ => h_.1))) hb); have n3_ := Aside0.mk (blk_below (g := zai) (o := .cells #[.int .i64 a1_0, .slice A1_1 l1_1.length c1_1, .string a1_2, .string a1_3] 24 (0, 0)) (by (with_reducible repeat (first | refine blk_drewN ?_ _ | refine blk_drew ?_ | refine blk_alloc ?_ _)); refine blk_far ?_ zd2.out _; (with_reducible repeat (first | refine blk_drewN ?_ _ | refine blk_drew ?_ | refine blk_alloc ?_ _)); refine blk_far ?_ zd2.out _; (with_reducible repeat (first | refine blk_drewN ?_ _ | refine blk_drew ?_ | refine blk_alloc ?_ _)); refine blk_far ?_ zd2.out _; (with_reducible repeat (first | refine blk_drewN ?_ _ | refine blk_drew ?_ | refine blk_alloc ?_ _)); refine blk_far ?_ zd2.out _; (with_reducible repeat (first | refine blk_drewN ?_ _ | refine blk_drew ?_ | refine blk_alloc ?_ _)); exact zaj.out) hb); have n4_ := Aside0.mk (blk_below (g := zau) (o := .cells #[.int .i64 t290, .slice Ao19 t291.length co19, .string t294, .string t295] 24 (0, 0)) (by (with_reducible repeat (first | refine blk_drewN ?_ _ | refine blk_drew ?_ | refine blk_alloc ?_ _)); refine blk_far ?_ zd4.out _; (with_reducible repeat (first | refine blk_drewN ?_ _ | refine blk_drew ?_ | refine blk_alloc ?_ _)); refine blk_far ?_ zd4.out _; (with_reducible repeat (first | refine blk_drewN ?_ _ | refine blk_drew ?_ | refine blk_alloc ?_ _)); refine blk_far ?_ zd4.out _; (with_reducible repeat (first | refine blk_drewN ?_ _ | refine blk_drew ?_ | refine blk_alloc ?_ _)); refine blk_far ?_ zd4.out _; (with_reducible repeat (first | refine blk_drewN ?_ _ | refine blk_drew ?_ | refine blk_alloc ?_ _)); exact zav.out) hb); have n5_ := Aside0.mk (blk_below (g := zaK) (o := .cells #[.int .i64 t298, .slice Ao25 t299.length co25, .string t302, .string t303] 24 (0, 0)) (by (with_reducible repeat (first | refine blk_drewN ?_ _ | refine blk_drew ?_ | refine blk_alloc ?_ _)); refine blk_far ?_ zd6.out _; (with_reducible repeat (first | refine blk_drewN ?_ _ | refine blk_drew ?_ | refine blk_alloc ?_ _)); refine blk_far ?_ zd6.out _; (with_reducible repeat (first | refine blk_drewN ?_ _ | refine blk_drew ?_ | refine blk_alloc ?_ _)); refine blk_far ?_ zd6.out _; (with_reducible repeat (first | refine blk_drewN ?_ _ | refine blk_drew ?_ | refine blk_alloc ?_ _)); refine blk_far ?_ zd6.out _; (with_reducible repeat (first | refine blk_drewN ?_ _ | refine blk_drew ?_ | refine blk_alloc ?_ _)); exact zaL.out) hb); have n6_ := Aside0.mk (blk_below (g := zdY) (o := .cells #[.int .i64 t314, .slice Ao122 t315.length co122, .string t318, .string t319] 24 (0, 0)) (by (with_reducible repeat (first | refine blk_drewN ?_ _ | refine blk_drew ?_ | refine blk_alloc ?_ _)); refine blk_put (cs := #[.int .i64 t314, .slice Ao122 t315.length co122, .string t318, .string (⟨#[]⟩ : ByteArray)]) ?_ 3 _ rfl; (with_reducible repeat (first | refine blk_drewN ?_ _ | refine blk_drew ?_ | refine blk_alloc ?_ _)); refine blk_put (cs := #[.int .i64 t314, .slice Ao122 t315.length co122, .string (⟨#[]⟩ : ByteArray), .string (⟨#[]⟩ : ByteArray)]) ?_ 2 _ rfl; (with_reducible repeat (first | refine blk_drewN ?_ _ | refine blk_drew ?_ | refine blk_alloc ?_ _)); refine blk_put (cs := #[.int .i64 t314, .slice none 0 0, .string (⟨#[]⟩ : ByteArray), .string (⟨#[]⟩ : ByteArray)]) ?_ 1 _ rfl; (with_reducible repeat (first | refine blk_drewN ?_ _ | refine blk_drew ?_ | refine blk_alloc ?_ _)); refine blk_put (cs := #[.int .i64 0, .slice none 0 0, .string (⟨#[]⟩ : ByteArray), .string (⟨#[]⟩ : ByteArray)]) ?_ 0 _ rfl; (with_reducible repeat (first | refine blk_drewN ?_ _ | refine blk_drew ?_ | refine blk_alloc ?_ _)); exact zdZ.out) hb); have n7_ := M.upS HB hb; clear zdy zdz HO317 zaj zav zaL zdZ HB; have zdy := n0_; have zdz := n1_; have HO317 := n2_; have zaj := n3_; have zav := n4_; have zaL := n5_; have zdZ := n6_; have HB := n7_; clear n0_ n1_ n2_ n3_ n4_ n5_ n6_ n7_; (try clear hb)))
                          go_ret
                          exact M.fin (M.up HB)
                      · replace c95 := Bool.eq_false_iff.mpr c95
                        subst c95
                        have H1 : (some false) = some r := by rw [if_neg (show ¬ (false = true) by decide)] at H; exact H
                        clear H
                        have H := H1
                        clear H1
                        obtain rfl := Option.some.inj H
                        have ze2 := zay.out
                        have ze3 := zaz.out
                        have ze4 := zaO.out
                        have ze5 := zaP.out
                        have ze6 : wc.cell? ⟨zai, 0, none⟩ = some (.int .i64 a1_0) := (blk_cell zaj.out 0).trans rfl
                        have ze7 : wc.cell? ⟨zai, 1, none⟩ = some (.slice A1_1 l1_1.length c1_1) := (blk_cell zaj.out 1).trans rfl
                        have ze8 : wc.cell? ⟨zai, 2, none⟩ = some (.string a1_2) := (blk_cell zaj.out 2).trans rfl
                        have ze9 : wc.cell? ⟨zai, 3, none⟩ = some (.string a1_3) := (blk_cell zaj.out 3).trans rfl
                        have zfa := blk_frozen zaj.out 0
                        have zfb := blk_frozen zaj.out 1
                        have zfc := blk_frozen zaj.out 2
                        have zfd := blk_frozen zaj.out 3
                        go_wp2_with (first | ((with_reducible refine gate_callee (f := 13) rfl ?_); refine M.goes (some 81) Tryd.func13 #[.agg #[.int .i64 a1_0, .slice A1_1 l1_1.length c1_1, .string a1_2, .string a1_3]] rfl ?_; (with_reducible refine (commit_Put.calls a1_0 _ _ l1_1 a1_2 a1_3 t311 t312 _ ?side1 ?side2 A91.out).mono ?_); (case side1 => exact M.cB HR1_1 HB); (case side2 => exact HC1_1.out); rintro e w128 ⟨rfl, hb⟩; refine ⟨_, rfl, ?_⟩; have n0_ := M.roB zdy hb; have n1_ := M.roB zdz hb; have n2_ := M.bkB zaj hb; have n3_ := M.bkB zav hb; have n4_ := M.bkB zaL hb; have n5_ := M.upS HB hb; clear zdy zdz zaj zav zaL HB; have zdy := n0_; have zdz := n1_; have zaj := n2_; have zav := n3_; have zaL := n4_; have HB := n5_; clear n0_ n1_ n2_ n3_ n4_ n5_; (try clear hb)) | ((with_reducible refine gate_callee (f := 9) rfl ?_); refine M.goes (some 89) Tryd.func9 #[.string t311] rfl ?_; (with_reducible refine (commit_Take.calls t311 t314 t315 t318 t319 t320 _ A93.out).mono ?_); rintro e w129 ⟨v316, rfl, ho0, hb⟩; refine ⟨_, rfl, ?_⟩; have n0_ := Aside0.mk (Kd.R_elder' (M.ro zdy) (Kd.R_base ho0) hb); have n1_ := Aside0.mk (Kd.R_elder' (M.ro zdz) (Kd.R_base ho0) hb); have n2_ := Aside0.mk (Kd.R_lower (Kd.R_new' (Kd.R_new' ho0 (Kd.R_lt (M.ro zdy))) (Kd.R_lt (M.ro zdz))) (below_size (M.up HB))); have n3_ := M.bkB zaj hb; have n4_ := M.bkB zav hb; have n5_ := M.bkB zaL hb; have n6_ := M.upS HB hb; clear zdy zdz zaj zav zaL HB; have zdy := n0_; have zdz := n1_; have HO317 := n2_; have zaj := n3_; have zav := n4_; have zaL := n5_; have HB := n6_; clear n0_ n1_ n2_ n3_ n4_ n5_ n6_; (try clear hb); (try clear ho0)) | ((with_reducible refine gate_dst (N := 13) rfl ?_); refine box_event ?hg (N := 13) ?hd (cs := #[.int .i64 0, .slice none 0 0, .string (⟨#[]⟩ : ByteArray), .string (⟨#[]⟩ : ByteArray)]) (t := 24) ?hr ?_; (case hd => rfl); (case hg => rfl); (case hr => first | (go_simp; done) | (go_simp; rfl)); intro zdY hg w130 hbox hb; have n0_ := M.roB zdy hb; have n1_ := M.roB zdz hb; have n2_ := M.roB HO317 hb; have n3_ := M.bkB zaj hb; have n4_ := M.bkB zav hb; have n5_ := M.bkB zaL hb; have n6_ := M.upS HB hb; have n7_ := Aside0.mk (hbox); have n8_ := M.upG HB hg; have n9_ := M.upG HB hg; have n10_ := M.bkL zaj hg; have n11_ := M.bkG zaj hg; have n12_ := M.bkL zav hg; have n13_ := M.bkG zav hg; have n14_ := M.bkL zaL hg; have n15_ := M.bkG zaL hg; clear zdy zdz HO317 zaj zav zaL HB; have zdy := n0_; have zdz := n1_; have HO317 := n2_; have zaj := n3_; have zav := n4_; have zaL := n5_; have HB := n6_; have zdZ := n7_; have zd0 := n8_; have zd1 := n9_; have zd2 := n10_; have zd3 := n11_; have zd4 := n12_; have zd5 := n13_; have zd6 := n14_; have zd7 := n15_; clear n0_ n1_ n2_ n3_ n4_ n5_ n6_ n7_ n8_ n9_ n10_ n11_ n12_ n13_ n14_ n15_; clear hb hbox hg; have zfe := zd3.out; have zff := zd2.out; have zfg := zd5.out; have zfh := zd4.out; have zfi := zd7.out; have zfj := zd6.out; have zfk : w130.cell? ⟨zdY, 0, none⟩ = some (.int .i64 0) := (blk_cell zdZ.out 0).trans rfl; have zfl : w130.cell? ⟨zdY, 1, none⟩ = some (.slice none 0 0) := (blk_cell zdZ.out 1).trans rfl; have zfm : w130.cell? ⟨zdY, 2, none⟩ = some (.string (⟨#[]⟩ : ByteArray)) := (blk_cell zdZ.out 2).trans rfl; have zfn : w130.cell? ⟨zdY, 3, none⟩ = some (.string (⟨#[]⟩ : ByteArray)) := (blk_cell zdZ.out 3).trans rfl; have zfo := blk_frozen zdZ.out 0; have zfp := blk_frozen zdZ.out 1; have zfq := blk_frozen zdZ.out 2; have zfr := blk_frozen zdZ.out 3; obtain ⟨Ao135, co135, eo135⟩ := Kd.R_slice HO317.out; subst eo135; have zfs : w130.cell? ⟨zai, 0, none⟩ = some (.int .i64 a1_0) := (blk_cell zaj.out 0).trans rfl; have zft : w130.cell? ⟨zai, 1, none⟩ = some (.slice A1_1 l1_1.length c1_1) := (blk_cell zaj.out 1).trans rfl; have zfu : w130.cell? ⟨zai, 2, none⟩ = some (.string a1_2) := (blk_cell zaj.out 2).trans rfl; have zfv : w130.cell? ⟨zai, 3, none⟩ = some (.string a1_3) := (blk_cell zaj.out 3).trans rfl; have zfw := blk_frozen zaj.out 0; have zfx := blk_frozen zaj.out 1; have zfy := blk_frozen zaj.out 2; have zfz := blk_frozen zaj.out 3) | ((with_reducible refine gate_callee (f := 11) rfl ?_); refine M.goes (some 94) Tryd.func11 #[.agg #[.int .i64 a1_0, .slice A1_1 l1_1.length c1_1, .string a1_2, .string a1_3], .agg #[.int .i64 t314, .slice Ao135 t315.length co135, .string t318, .string t319]] rfl ?_; (with_reducible refine (pleachref35_Same.calls a1_0 _ _ l1_1 a1_2 a1_3 t314 _ _ t315 t318 t319 false _ ?side1 ?side2 ?side3 ?side4 A94.out).mono ?_); (case side1 => exact Kd.C_below HR1_1.out (M.up HB)); (case side2 => exact HC1_1.out); (case side3 => refine (Kd.R_reads' (e := 9) (base := w.heap.size) (ok := fun k_ => ((True ∧ some k_ ≠ (.slice Ao19 t291.length co19 : Value).ownBlock) ∧ some k_ ≠ (.slice Ao25 t299.length co25 : Value).ownBlock)) (n := t315.length) (c := co135) ?_).2.2; exact (by (with_reducible repeat (first | apply Kd.R_alloc | apply Kd.R_drewN | apply Kd.R_drew)); exact (Kd.R_mono (Kd.R_far (p := ⟨zdY, 3, none⟩) (Kd.R_far (p := ⟨zdY, 2, none⟩) (Kd.R_far (p := ⟨zdY, 1, none⟩) (Kd.R_far (p := ⟨zdY, 0, none⟩) (Kd.R_types HO317.out zdZ.out (by decide)) (fun _ hk => hk.2) (.int .i64 t314)) (fun _ hk => hk.2) (.slice Ao135 t315.length co135)) (fun _ hk => hk.2) (.string t318)) (fun _ hk => hk.2) (.string t319)) (fun _ h_ => h_.1)))); (case side4 => exact (Kd.R_reads' HO317.out).2.1); rintro e w137 ⟨rfl, hb⟩; refine ⟨_, rfl, ?_⟩; have n0_ := Aside0.mk (Kd.R_below (by (with_reducible repeat (first | apply Kd.R_alloc | apply Kd.R_drewN | apply Kd.R_drew)); exact (Kd.R_mono (Kd.R_far (p := ⟨zdY, 3, none⟩) (Kd.R_far (p := ⟨zdY, 2, none⟩) (Kd.R_far (p := ⟨zdY, 1, none⟩) (Kd.R_far (p := ⟨zdY, 0, none⟩) (Kd.R_types zdy.out zdZ.out (by decide)) (fun _ hk => hk.2) (.int .i64 t314)) (fun _ hk => hk.2) (.slice Ao135 t315.length co135)) (fun _ hk => hk.2) (.string t318)) (fun _ hk => hk.2) (.string t319)) (fun _ h_ => h_.1))) hb); have n1_ := Aside0.mk (Kd.R_below (by (with_reducible repeat (first | apply Kd.R_alloc | apply Kd.R_drewN | apply Kd.R_drew)); exact (Kd.R_mono (Kd.R_far (p := ⟨zdY, 3, none⟩) (Kd.R_far (p := ⟨zdY, 2, none⟩) (Kd.R_far (p := ⟨zdY, 1, none⟩) (Kd.R_far (p := ⟨zdY, 0, none⟩) (Kd.R_types zdz.out zdZ.out (by decide)) (fun _ hk => hk.2) (.int .i64 t314)) (fun _ hk => hk.2) (.slice Ao135 t315.length co135)) (fun _ hk => hk.2) (.string t318)) (fun _ hk => hk.2) (.string t319)) (fun _ h_ => h_.1))) hb); have n2_ := Aside0.mk (Kd.R_below (by (with_reducible repeat (first | apply Kd.R_alloc | apply Kd.R_drewN | apply Kd.R_drew)); exact (Kd.R_mono (Kd.R_far (p := ⟨zdY, 3, none⟩) (Kd.R_far (p := ⟨zdY, 2, none⟩) (Kd.R_far (p := ⟨zdY, 1, none⟩) (Kd.R_far (p := ⟨zdY, 0, none⟩) (Kd.R_types HO317.out zdZ.out (by decide)) (fun _ hk => hk.2) (.int .i64 t314)) (fun _ hk => hk.2) (.slice Ao135 t315.length co135)) (fun _ hk => hk.2) (.string t318)) (fun _ hk => hk.2) (.string t319)) (fun _ h_ => h_.1))) hb); have n3_ := Aside0.mk (blk_below (g := zai) (o := .cells #[.int .i64 a1_0, .slice A1_1 l1_1.length c1_1, .string a1_2, .string a1_3] 24 (0, 0)) (by (with_reducible repeat (first | refine blk_drewN ?_ _ | refine blk_drew ?_ | refine blk_alloc ?_ _)); refine blk_far ?_ zd2.out _; (with_reducible repeat (first | refine blk_drewN ?_ _ | refine blk_drew ?_ | refine blk_alloc ?_ _)); refine blk_far ?_ zd2.out _; (with_reducible repeat (first | refine blk_drewN ?_ _ | refine blk_drew ?_ | refine blk_alloc ?_ _)); refine blk_far ?_ zd2.out _; (with_reducible repeat (first | refine blk_drewN ?_ _ | refine blk_drew ?_ | refine blk_alloc ?_ _)); refine blk_far ?_ zd2.out _; (with_reducible repeat (first | refine blk_drewN ?_ _ | refine blk_drew ?_ | refine blk_alloc ?_ _)); exact zaj.out) hb); have n4_ := Aside0.mk (blk_below (g := zau) (o := .cells #[.int .i64 t290, .slice Ao19 t291.length co19, .string t294, .string t295] 24 (0, 0)) (by (with_reducible repeat (first | refine blk_drewN ?_ _ | refine blk_drew ?_ | refine blk_alloc ?_ _)); refine blk_far ?_ zd4.out _; (with_reducible repeat (first | refine blk_drewN ?_ _ | refine blk_drew ?_ | refine blk_alloc ?_ _)); refine blk_far ?_ zd4.out _; (with_reducible repeat (first | refine blk_drewN ?_ _ | refine blk_drew ?_ | refine blk_alloc ?_ _)); refine blk_far ?_ zd4.out _; (with_reducible repeat (first | refine blk_drewN ?_ _ | refine blk_drew ?_ | refine blk_alloc ?_ _)); refine blk_far ?_ zd4.out _; (with_reducible repeat (first | refine blk_drewN ?_ _ | refine blk_drew ?_ | refine blk_alloc ?_ _)); exact zav.out) hb); have n5_ := Aside0.mk (blk_below (g := zaK) (o := .cells #[.int .i64 t298, .slice Ao25 t299.length co25, .string t302, .string t303] 24 (0, 0)) (by (with_reducible repeat (first | refine blk_drewN ?_ _ | refine blk_drew ?_ | refine blk_alloc ?_ _)); refine blk_far ?_ zd6.out _; (with_reducible repeat (first | refine blk_drewN ?_ _ | refine blk_drew ?_ | refine blk_alloc ?_ _)); refine blk_far ?_ zd6.out _; (with_reducible repeat (first | refine blk_drewN ?_ _ | refine blk_drew ?_ | refine blk_alloc ?_ _)); refine blk_far ?_ zd6.out _; (with_reducible repeat (first | refine blk_drewN ?_ _ | refine blk_drew ?_ | refine blk_alloc ?_ _)); refine blk_far ?_ zd6.out _; (with_reducible repeat (first | refine blk_drewN ?_ _ | refine blk_drew ?_ | refine blk_alloc ?_ _)); exact zaL.out) hb); have n6_ := Aside0.mk (blk_below (g := zdY) (o := .cells #[.int .i64 t314, .slice Ao135 t315.length co135, .string t318, .string t319] 24 (0, 0)) (by (with_reducible repeat (first | refine blk_drewN ?_ _ | refine blk_drew ?_ | refine blk_alloc ?_ _)); refine blk_put (cs := #[.int .i64 t314, .slice Ao135 t315.length co135, .string t318, .string (⟨#[]⟩ : ByteArray)]) ?_ 3 _ rfl; (with_reducible repeat (first | refine blk_drewN ?_ _ | refine blk_drew ?_ | refine blk_alloc ?_ _)); refine blk_put (cs := #[.int .i64 t314, .slice Ao135 t315.length co135, .string (⟨#[]⟩ : ByteArray), .string (⟨#[]⟩ : ByteArray)]) ?_ 2 _ rfl; (with_reducible repeat (first | refine blk_drewN ?_ _ | refine blk_drew ?_ | refine blk_alloc ?_ _)); refine blk_put (cs := #[.int .i64 t314, .slice none 0 0, .string (⟨#[]⟩ : ByteArray), .string (⟨#[]⟩ : ByteArray)]) ?_ 1 _ rfl; (with_reducible repeat (first | refine blk_drewN ?_ _ | refine blk_drew ?_ | refine blk_alloc ?_ _)); refine blk_put (cs := #[.int .i64 0, .slice none 0 0, .string (⟨#[]⟩ : ByteArray), .string (⟨#[]⟩ : ByteArray)]) ?_ 0 _ rfl; (with_reducible repeat (first | refine blk_drewN ?_ _ | refine blk_drew ?_ | refine blk_alloc ?_ _)); exact zdZ.out) hb); have n7_ := M.upS HB hb; clear zdy zdz HO317 zaj zav zaL zdZ HB; have zdy := n0_; have zdz := n1_; have HO317 := n2_; have zaj := n3_; have zav := n4_; have zaL := n5_; have zdZ := n6_; have HB := n7_; clear n0_ n1_ n2_ n3_ n4_ n5_ n6_ n7_; (try clear hb)))
                        go_ret
                        exact M.fin (M.up HB)
                    · rw [if_neg c92] at H
                      have c92b0 : (t312 == 0) = false := beq_eq_false_iff_ne.mpr c92
                      have c92b1 : (t312 != 0) = true := bne_iff_ne.mpr c92
                      replace H := Option.bind_eq_some_iff.mp H
                      obtain ⟨t313, A1380, H⟩ := H
                      replace H : (some t313) = some r := H
                      have A138 := Aside0.mk A1380
                      clear A1380
                      obtain rfl := Option.some.inj H
                      have zfA := zay.out
                      have zfB := zaz.out
                      have zfC := zaO.out
                      have zfD := zaP.out
                      have zfE : wc.cell? ⟨zai, 0, none⟩ = some (.int .i64 a1_0) := (blk_cell zaj.out 0).trans rfl
                      have zfF : wc.cell? ⟨zai, 1, none⟩ = some (.slice A1_1 l1_1.length c1_1) := (blk_cell zaj.out 1).trans rfl
                      have zfG : wc.cell? ⟨zai, 2, none⟩ = some (.string a1_2) := (blk_cell zaj.out 2).trans rfl
                      have zfH : wc.cell? ⟨zai, 3, none⟩ = some (.string a1_3) := (blk_cell zaj.out 3).trans rfl
                      have zfI := blk_frozen zaj.out 0
                      have zfJ := blk_frozen zaj.out 1
                      have zfK := blk_frozen zaj.out 2
                      have zfL := blk_frozen zaj.out 3
                      go_wp2_with (first | ((with_reducible refine gate_callee (f := 13) rfl ?_); refine M.goes (some 81) Tryd.func13 #[.agg #[.int .i64 a1_0, .slice A1_1 l1_1.length c1_1, .string a1_2, .string a1_3]] rfl ?_; (with_reducible refine (commit_Put.calls a1_0 _ _ l1_1 a1_2 a1_3 t311 t312 _ ?side1 ?side2 A91.out).mono ?_); (case side1 => exact M.cB HR1_1 HB); (case side2 => exact HC1_1.out); rintro e w142 ⟨rfl, hb⟩; refine ⟨_, rfl, ?_⟩; have n0_ := M.roB zdy hb; have n1_ := M.roB zdz hb; have n2_ := M.bkB zaj hb; have n3_ := M.bkB zav hb; have n4_ := M.bkB zaL hb; have n5_ := M.upS HB hb; clear zdy zdz zaj zav zaL HB; have zdy := n0_; have zdz := n1_; have zaj := n2_; have zav := n3_; have zaL := n4_; have HB := n5_; clear n0_ n1_ n2_ n3_ n4_ n5_; (try clear hb)) | ((with_reducible refine gate_callee (f := 8) rfl ?_); refine M.goes (some 86) Tryd.func8 #[] rfl ?_; (with_reducible refine (pleachlaw35_awake.calls  t313 _ A138.out (hT := M.stab_up HT (M.up HB))).mono ?_); rintro e w143 ⟨rfl, hb⟩; refine ⟨_, rfl, ?_⟩; have n0_ := M.roB zdy hb; have n1_ := M.roB zdz hb; have n2_ := M.bkB zaj hb; have n3_ := M.bkB zav hb; have n4_ := M.bkB zaL hb; have n5_ := M.upS HB hb; clear zdy zdz zaj zav zaL HB; have zdy := n0_; have zdz := n1_; have zaj := n2_; have zav := n3_; have zaL := n4_; have HB := n5_; clear n0_ n1_ n2_ n3_ n4_ n5_; (try clear hb)))
                      go_ret
                      exact M.fin (M.up HB)

/-- THE ONE PURE STATEMENT of pleachlaw35_CommitTakes: this session's form. -/
def pleachlaw35_CommitTakes.Pure : Prop := ∀ (a0 : ByteArray) (a1_0 : Int) (l1_1 : List ByteArray) (a1_2 : ByteArray) (a1_3 : ByteArray), (a0.size ≤ 140737488351232) → ((Lit.int .i64 a1_0).wf = true) → ((∀ y ∈ l1_1, y.size ≤ 9223372036854775807) ∧ l1_1.length ≤ 9223372036854775807) → (a1_2.size ≤ 9223372036854775807) → (a1_3.size ≤ 9223372036854775807) → ∃ k, pleachlaw35_CommitTakes.f k a0 a1_0 l1_1 a1_2 a1_3 = some true

end Go.Proofs.YtikdbklmhjlfoaaDoor.ECommitTakes
