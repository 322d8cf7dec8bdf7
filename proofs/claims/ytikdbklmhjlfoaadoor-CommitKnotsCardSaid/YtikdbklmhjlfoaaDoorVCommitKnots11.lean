-- Laid by this session's own program (wip/tools/fold.py): this session's texts, cut to what the claim names and put together; Lean checks it.
import Derived.Test.YtikdbklmhjlfoaaDoorVCommitKnots1
import Derived.Test.YtikdbklmhjlfoaaDoorXCommitKnots1
namespace Go.Proofs.YtikdbklmhjlfoaaDoor.ECommitKnots
open Go.RowKit Go.Proofs.YtikdbklmhjlfoaaDoorW.PrintWords Go.Proofs.YtikdbklmhjlfoaaDoorW.PrintLast Go.Proofs.YtikdbklmhjlfoaaDoorW.PrintMore
attribute [local go_sem] M.run_leq M.run_gtr M.run_geq max2_int min2_int max_two min_two max_three min_three max_four min_four
set_option linter.unusedVariables false
set_option linter.unusedSimpArgs false
def pleachref35_in.l0 : Nat → ByteArray → List ByteArray → Int → Int → Option (Bool)
  | 0, _, _, _, _ => none
  | k + 1, x1, x7, x8, x9 => if x9 < x8 then (if 0 ≤ x9 then (if x9 < (x7.length : Int) then (if (rdOf ByteArray.empty x7 x9).toList = x1.toList then (some true) else (pleachref35_in.l0 k x1 x7 x8 (wrap64 (x9 + 1)))) else (none)) else (none)) else (some false)
def pleachref35_in.f (k : Nat) (l0 : List ByteArray) (a1 : ByteArray) : Option (Bool) := pleachref35_in.l0 k a1 l0 (l0.length : Int) 0
theorem pleachref35_in.mono_l : ∀ k, (∀ y0 y1 y2 y3, LeO (pleachref35_in.l0 k y0 y1 y2 y3) (pleachref35_in.l0 (k + 1) y0 y1 y2 y3))
  | 0 => fun _ _ _ _ r h => by simp [pleachref35_in.l0] at h
  | k + 1 => by
    have ih0 := pleachref35_in.mono_l k
    · intro y0 y1 y2 y3
      unfold pleachref35_in.l0
      repeat' first
      | (with_reducible exact ih0 _ _ _ _)
      | (with_reducible exact LeO.refl _)
      | (with_reducible exact LeO.none _)
      | (with_reducible refine LeO.ite ?_ ?_)
      | (with_reducible refine LeO.bind ?_ (fun _ => ?_))
      | exact ih0 _ _ _ _
      | exact LeO.none _
      | refine LeO.ite ?_ ?_
      | refine LeO.bind ?_ (fun _ => ?_)
theorem pleachref35_in.mono : ∀ a0 a1 k, LeO (pleachref35_in.f k a0 a1) (pleachref35_in.f (k + 1) a0 a1) := by
  intro a0 a1 k
  have ih0 := pleachref35_in.mono_l k
  unfold pleachref35_in.f
  repeat' first
      | (with_reducible exact ih0 _ _ _ _)
      | (with_reducible exact LeO.refl _)
      | (with_reducible exact LeO.none _)
      | (with_reducible refine LeO.ite ?_ ?_)
      | (with_reducible refine LeO.bind ?_ (fun _ => ?_))
      | exact ih0 _ _ _ _
      | exact LeO.none _
      | refine LeO.ite ?_ ?_
      | refine LeO.bind ?_ (fun _ => ?_)
set_option maxHeartbeats 8000000 in
set_option maxRecDepth 100000 in
theorem pleachref35_in.calls (k : Nat) (A0 : Option Addr) (c0 : Nat) (l0 : List ByteArray) (a1 : ByteArray) (r : Bool) (w : World) (hr0 : Kd.C Kd.string w A0 l0.length l0) (hc0 : l0.length ≤ c0) (h : pleachref35_in.f k l0 a1 = some r) :
    Calls Tryd.prog 49 #[.slice A0 l0.length c0, .string a1] w fun e w' => e = .returned (.bool r) ∧ Drawn0 w w' := by
 have HR0 := Aside0.mk hr0
 have HC0 := Aside0.mk hc0
 clear hr0 hc0
 have H : (pleachref35_in.l0 k a1 l0 (l0.length : Int) 0) = some r := h
 clear h
 have H' := Aside0.mk H
 clear H
 go_enter Tryd.func49, Tryd.ntmps49
 go_wp2
 go_loopg [9] k (fun kq v9 w' => ∃ (x9_1 : Int), v9 = .int .i64 x9_1 ∧ Aside0 (pleachref35_in.l0 kq a1 l0 (l0.length : Int) x9_1 = some r) ∧ Aside0 (kq ≤ k) ∧ Drawn0 w w')
 case atStart => exact ⟨(0), M.eqv, H', ⟨Nat.le_refl _⟩, by repeat (first | exact Drawn0.refl _ | apply Drawn0.step)⟩
 case round =>
  clear H'
  try clear p2
  obtain ⟨x9_1, rfl, HA, HK1, ⟨m1, rfl⟩⟩ := hrel
  cases gk with
  | zero => exact absurd HA.out (by simp [pleachref35_in.l0])
  | succ k1 =>
   have H := HA.out
   clear HA
   simp only [pleachref35_in.l0] at H
   by_cases c3 : x9_1 < (l0.length : Int)
   ·rw [if_pos c3] at H
    have c3b0 := decide_eq_true c3
    clear c3
    by_cases c4 : 0 ≤ x9_1
    ·rw [if_pos c4] at H
     have c4b0 := decide_eq_true c4
     clear c4
     by_cases c5 : x9_1 < (l0.length : Int)
     ·rw [if_pos c5] at H
      have c5b0 := decide_eq_true c5
      clear c5
      by_cases c6 : (rdOf ByteArray.empty l0 x9_1).toList = a1.toList
      ·rw [if_pos c6] at H
       have c6b0 : ((rdOf ByteArray.empty l0 x9_1).toList == a1.toList) = true := beq_iff_eq.mpr c6
       have c6b1 : ((rdOf ByteArray.empty l0 x9_1).toList != a1.toList) = false := bne_eq_false_iff_eq.mpr c6
       clear c6
       obtain rfl := Option.some.inj H
       have p252 : 0 ≤ (x9_1 : Int) := M.dt
       have q252 : x9_1 < (l0.length : Int) := M.dt
       obtain ⟨ad252, e252, hx252_0⟩ := Kd.at_string HR0.out x9_1 p252 q252
       cases e252
       replace p252 := eq_true p252
       replace q252 := eq_true q252
       go_wp2
       go_ret
       exact ⟨by first | rfl | (simp; done) | (simp [*]; done), by repeat (first | exact Drawn0.refl _ | apply Drawn0.step)⟩
      ·rw [if_neg c6] at H
       have c6b0 : ((rdOf ByteArray.empty l0 x9_1).toList == a1.toList) = false := beq_eq_false_iff_ne.mpr c6
       have c6b1 : ((rdOf ByteArray.empty l0 x9_1).toList != a1.toList) = true := bne_iff_ne.mpr c6
       have H' := Aside0.mk H
       clear H
       have p252 : 0 ≤ (x9_1 : Int) := M.dt
       have q252 : x9_1 < (l0.length : Int) := M.dt
       obtain ⟨ad252, e252, hx252_0⟩ := Kd.at_string HR0.out x9_1 p252 q252
       cases e252
       replace p252 := eq_true p252
       replace q252 := eq_true q252
       go_wp2
       go_roundg k1
       case measure => have := HK1.out; omega
       case rel => exact ⟨(wrap64 (x9_1 + 1)), M.eqv, H', ⟨by have := HK1.out; omega⟩, by repeat (first | exact Drawn0.refl _ | apply Drawn0.step)⟩
     ·exact M.nf c5 H
    ·exact M.nf c4 H
   ·rw [if_neg c3] at H
    have c3b0 := decide_eq_false c3
    clear c3
    obtain rfl := Option.some.inj H
    go_wp2
    go_ret
    exact ⟨by first | rfl | (simp; done) | (simp [*]; done), by repeat (first | exact Drawn0.refl _ | apply Drawn0.step)⟩
mutual
def pleachref35_Is_p.j0 : Nat → Bool → Int → List ByteArray → ByteArray → ByteArray → Option (Bool)
  | 0, _, _, _, _, _ => none
  | k + 1, x29, zaa, zab, zac, zad => if x29 = true then (some false) else (pleachref35_Is_p.l0 k (zab.length : Int) 0 zaa zab zac zad)
def pleachref35_Is_p.l0 : Nat → Int → Int → Int → List ByteArray → ByteArray → ByteArray → Option (Bool)
  | 0, _, _, _, _, _, _ => none
  | k + 1, x32, x33, zaa, zab, zac, zad => if x33 < x32 then (if 0 ≤ x33 then (if x33 < (zab.length : Int) then (if ((rdOf ByteArray.empty zab x33).size : Int) = 32 then (pleachref35_Is_p.l0 k x32 (wrap64 (x33 + 1)) zaa zab zac zad) else (some false)) else (none)) else (none)) else (if (zab.length : Int) < 2 then (some true) else (if 0 < (zab.length : Int) then (if 1 < (zab.length : Int) then (some ((rdOf ByteArray.empty zab 0).toList != (rdOf ByteArray.empty zab 1).toList)) else (none)) else (none)))
end
def pleachref35_Is_p.f (k : Nat) (a0_0 : Int) (l0_1 : List ByteArray) (a0_2 : ByteArray) (a0_3 : ByteArray) : Option (Bool) := if a0_0 < 1 then (pleachref35_Is_p.j0 k true a0_0 l0_1 a0_2 a0_3) else (if a0_0 > 4294967295 then (pleachref35_Is_p.j0 k true a0_0 l0_1 a0_2 a0_3) else (if (l0_1.length : Int) > 2 then (pleachref35_Is_p.j0 k true a0_0 l0_1 a0_2 a0_3) else (if (a0_2.size : Int) = 32 then (pleachref35_Is_p.j0 k (decide ((a0_3.size : Int) > 40)) a0_0 l0_1 a0_2 a0_3) else (pleachref35_Is_p.j0 k true a0_0 l0_1 a0_2 a0_3))))
theorem pleachref35_Is_p.mono_l : ∀ k, (∀ y0 y1 y2 y3 y4, LeO (pleachref35_Is_p.j0 k y0 y1 y2 y3 y4) (pleachref35_Is_p.j0 (k + 1) y0 y1 y2 y3 y4)) ∧ (∀ y0 y1 y2 y3 y4 y5, LeO (pleachref35_Is_p.l0 k y0 y1 y2 y3 y4 y5) (pleachref35_Is_p.l0 (k + 1) y0 y1 y2 y3 y4 y5))
  | 0 => ⟨fun _ _ _ _ _ r h => by simp [pleachref35_Is_p.j0] at h, fun _ _ _ _ _ _ r h => by simp [pleachref35_Is_p.l0] at h⟩
  | k + 1 => by
    obtain ⟨ih0, ih1⟩ := pleachref35_Is_p.mono_l k
    refine ⟨?_, ?_⟩
    · intro y0 y1 y2 y3 y4
      unfold pleachref35_Is_p.j0
      repeat' first
      | (with_reducible exact ih0 _ _ _ _ _)
      | (with_reducible exact ih1 _ _ _ _ _ _)
      | (with_reducible exact LeO.refl _)
      | (with_reducible exact LeO.none _)
      | (with_reducible refine LeO.ite ?_ ?_)
      | (with_reducible refine LeO.bind ?_ (fun _ => ?_))
      | exact ih0 _ _ _ _ _
      | exact ih1 _ _ _ _ _ _
      | exact LeO.none _
      | refine LeO.ite ?_ ?_
      | refine LeO.bind ?_ (fun _ => ?_)
    · intro y0 y1 y2 y3 y4 y5
      unfold pleachref35_Is_p.l0
      repeat' first
      | (with_reducible exact ih0 _ _ _ _ _)
      | (with_reducible exact ih1 _ _ _ _ _ _)
      | (with_reducible exact LeO.refl _)
      | (with_reducible exact LeO.none _)
      | (with_reducible refine LeO.ite ?_ ?_)
      | (with_reducible refine LeO.bind ?_ (fun _ => ?_))
      | exact ih0 _ _ _ _ _
      | exact ih1 _ _ _ _ _ _
      | exact LeO.none _
      | refine LeO.ite ?_ ?_
      | refine LeO.bind ?_ (fun _ => ?_)
theorem pleachref35_Is_p.mono : ∀ a0 a1 a2 a3 k, LeO (pleachref35_Is_p.f k a0 a1 a2 a3) (pleachref35_Is_p.f (k + 1) a0 a1 a2 a3) := by
  intro a0 a1 a2 a3 k
  obtain ⟨ih0, ih1⟩ := pleachref35_Is_p.mono_l k
  unfold pleachref35_Is_p.f
  repeat' first
      | (with_reducible exact ih0 _ _ _ _ _)
      | (with_reducible exact ih1 _ _ _ _ _ _)
      | (with_reducible exact LeO.refl _)
      | (with_reducible exact LeO.none _)
      | (with_reducible refine LeO.ite ?_ ?_)
      | (with_reducible refine LeO.bind ?_ (fun _ => ?_))
      | exact ih0 _ _ _ _ _
      | exact ih1 _ _ _ _ _ _
      | exact LeO.none _
      | refine LeO.ite ?_ ?_
      | refine LeO.bind ?_ (fun _ => ?_)
set_option maxHeartbeats 8000000 in
set_option maxRecDepth 100000 in
theorem pleachref35_Is_p.calls (k : Nat) (a0_0 : Int) (A0_1 : Option Addr) (c0_1 : Nat) (l0_1 : List ByteArray) (a0_2 : ByteArray) (a0_3 : ByteArray) (r : Bool) (w : World) (hr0_1 : Kd.C Kd.string w A0_1 l0_1.length l0_1) (hc0_1 : l0_1.length ≤ c0_1) (h : pleachref35_Is_p.f k a0_0 l0_1 a0_2 a0_3 = some r) :
    Calls Tryd.prog 14 #[.agg #[.int .i64 a0_0, .slice A0_1 l0_1.length c0_1, .string a0_2, .string a0_3]] w fun e w' => e = .returned (.bool r) ∧ Below w.heap.size w w' := by
 have hu24 := Tryd.underlying24
 have HR0_1 := Aside0.mk hr0_1
 have HC0_1 := Aside0.mk hc0_1
 clear hr0_1 hc0_1
 have HB := Aside0.mk (Below.refl w.heap.size w)
 have H : (if a0_0 < 1 then (pleachref35_Is_p.j0 k true a0_0 l0_1 a0_2 a0_3) else (if a0_0 > 4294967295 then (pleachref35_Is_p.j0 k true a0_0 l0_1 a0_2 a0_3) else (if (l0_1.length : Int) > 2 then (pleachref35_Is_p.j0 k true a0_0 l0_1 a0_2 a0_3) else (if (a0_2.size : Int) = 32 then (pleachref35_Is_p.j0 k (decide ((a0_3.size : Int) > 40)) a0_0 l0_1 a0_2 a0_3) else (pleachref35_Is_p.j0 k true a0_0 l0_1 a0_2 a0_3))))) = some r := h
 clear h
 have HC2 := Aside0.mk H
 clear H
 go_enter Tryd.func14, Tryd.ntmps14
 go_upto_region 1 with (first | ((with_reducible refine gate_dst (N := 1) rfl ?_); (try (refine gate_guard (by rfl) ?_; dsimp only)); refine M.bx 1 24 (#[.int .i64 a0_0, .slice A0_1 l0_1.length c0_1, .string a0_2, .string a0_3]) ?_; intro zae hg w3 hbox hb; have zaf := Aside0.mk (hbox); have zag := M.upG HB hg; have zah := M.upG HB hg; replace HB := M.upS HB hb; clear hb hbox hg))
 repeat (go_quiet (first | ((with_reducible refine gate_dst (N := 1) rfl ?_); (try (refine gate_guard (by rfl) ?_; dsimp only)); refine M.bx 1 24 (#[.int .i64 a0_0, .slice A0_1 l0_1.length c0_1, .string a0_2, .string a0_3]) ?_; intro zae hg w3 hbox hb; have zaf := Aside0.mk (hbox); have zag := M.upG HB hg; have zah := M.upG HB hg; replace HB := M.upS HB hb; clear hb hbox hg)); go_upto_region 1 with (first | ((with_reducible refine gate_dst (N := 1) rfl ?_); (try (refine gate_guard (by rfl) ?_; dsimp only)); refine M.bx 1 24 (#[.int .i64 a0_0, .slice A0_1 l0_1.length c0_1, .string a0_2, .string a0_3]) ?_; intro zae hg w3 hbox hb; have zaf := Aside0.mk (hbox); have zag := M.upG HB hg; have zah := M.upG HB hg; replace HB := M.upS HB hb; clear hb hbox hg)))
 (try simp only [Act.put, List.setIfInBounds_toArray, List.set_cons_zero, List.set_cons_succ])
 go_cut [29] (fun v29 wc => ∃ (kq : Nat) (x29_1 : Bool), v29 = .bool x29_1 ∧ Aside0 (pleachref35_Is_p.j0 kq x29_1 a0_0 l0_1 a0_2 a0_3 = some r) ∧ Aside0 (kq ≤ k) ∧ Aside0 (wc.heap[zae]? = some (.cells #[.int .i64 a0_0, (.slice A0_1 l0_1.length c0_1), .string a0_2, .string a0_3] 24 (0, 0))) ∧ Aside0 (Below w.heap.size w wc))
 case first =>
  have H := HC2.out
  clear HC2
  by_cases c4 : a0_0 < 1
  ·rw [if_pos c4] at H
   have c4b0 := decide_eq_true c4
   clear c4
   (first | rw [c4b0] | (simp only [i64_w, i32_w]; rw [c4b0]) | skip)
   have H' := Aside0.mk H
   clear H
   have zai : w3.cell? ⟨zae, 0, none⟩ = some (.int .i64 a0_0) := (blk_cell zaf.out 0).trans rfl
   have zaj : w3.cell? ⟨zae, 1, none⟩ = some (.slice A0_1 l0_1.length c0_1) := (blk_cell zaf.out 1).trans rfl
   have zak : w3.cell? ⟨zae, 2, none⟩ = some (.string a0_2) := (blk_cell zaf.out 2).trans rfl
   have zal : w3.cell? ⟨zae, 3, none⟩ = some (.string a0_3) := (blk_cell zaf.out 3).trans rfl
   have zam := blk_frozen zaf.out 0
   have zan := blk_frozen zaf.out 1
   have zao := blk_frozen zaf.out 2
   have zap := blk_frozen zaf.out 3
   go_wp2
   repeat (go_quiet (fail); try go_wp2)
   go_meet
   case rel => exact ⟨_, (true), M.eqv, H', ⟨by first | omega | exact Nat.le_refl _⟩, ⟨M.bk zaf⟩, ⟨M.up HB⟩⟩
  ·rw [if_neg c4] at H
   have c4b0 := decide_eq_false c4
   clear c4
   (first | rw [c4b0] | (simp only [i64_w, i32_w]; rw [c4b0]) | skip)
   by_cases c6 : a0_0 > 4294967295
   ·rw [if_pos c6] at H
    have c6b0 := decide_eq_true c6
    clear c6
    have H' := Aside0.mk H
    clear H
    have zaq : w3.cell? ⟨zae, 0, none⟩ = some (.int .i64 a0_0) := (blk_cell zaf.out 0).trans rfl
    have zar : w3.cell? ⟨zae, 1, none⟩ = some (.slice A0_1 l0_1.length c0_1) := (blk_cell zaf.out 1).trans rfl
    have zas : w3.cell? ⟨zae, 2, none⟩ = some (.string a0_2) := (blk_cell zaf.out 2).trans rfl
    have zat : w3.cell? ⟨zae, 3, none⟩ = some (.string a0_3) := (blk_cell zaf.out 3).trans rfl
    have zau := blk_frozen zaf.out 0
    have zav := blk_frozen zaf.out 1
    have zaw := blk_frozen zaf.out 2
    have zax := blk_frozen zaf.out 3
    go_wp2
    repeat (go_quiet (fail); try go_wp2)
    go_meet
    case rel => exact ⟨_, (true), M.eqv, H', ⟨by first | omega | exact Nat.le_refl _⟩, ⟨M.bk zaf⟩, ⟨M.up HB⟩⟩
   ·rw [if_neg c6] at H
    have c6b0 := decide_eq_false c6
    clear c6
    by_cases c8 : (l0_1.length : Int) > 2
    ·rw [if_pos c8] at H
     have c8b0 := decide_eq_true c8
     have c8b1 : decide (2 < l0_1.length) = true := decide_eq_true (by omega)
     clear c8
     have H' := Aside0.mk H
     clear H
     have zay : w3.cell? ⟨zae, 0, none⟩ = some (.int .i64 a0_0) := (blk_cell zaf.out 0).trans rfl
     have zaz : w3.cell? ⟨zae, 1, none⟩ = some (.slice A0_1 l0_1.length c0_1) := (blk_cell zaf.out 1).trans rfl
     have zaA : w3.cell? ⟨zae, 2, none⟩ = some (.string a0_2) := (blk_cell zaf.out 2).trans rfl
     have zaB : w3.cell? ⟨zae, 3, none⟩ = some (.string a0_3) := (blk_cell zaf.out 3).trans rfl
     have zaC := blk_frozen zaf.out 0
     have zaD := blk_frozen zaf.out 1
     have zaE := blk_frozen zaf.out 2
     have zaF := blk_frozen zaf.out 3
     go_wp2
     repeat (go_quiet (fail); try go_wp2)
     go_meet
     case rel => exact ⟨_, (true), M.eqv, H', ⟨by first | omega | exact Nat.le_refl _⟩, ⟨M.bk zaf⟩, ⟨M.up HB⟩⟩
    ·rw [if_neg c8] at H
     have c8b0 := decide_eq_false c8
     have c8b1 : decide (2 < l0_1.length) = false := decide_eq_false (by omega)
     clear c8
     by_cases c10 : (a0_2.size : Int) = 32
     ·rw [if_pos c10] at H
      have c10b0 : ((a0_2.size : Int) == 32) = true := beq_iff_eq.mpr c10
      have c10b1 : ((a0_2.size : Int) != 32) = false := bne_eq_false_iff_eq.mpr c10
      clear c10
      have H' := Aside0.mk H
      clear H
      have zaG : w3.cell? ⟨zae, 0, none⟩ = some (.int .i64 a0_0) := (blk_cell zaf.out 0).trans rfl
      have zaH : w3.cell? ⟨zae, 1, none⟩ = some (.slice A0_1 l0_1.length c0_1) := (blk_cell zaf.out 1).trans rfl
      have zaI : w3.cell? ⟨zae, 2, none⟩ = some (.string a0_2) := (blk_cell zaf.out 2).trans rfl
      have zaJ : w3.cell? ⟨zae, 3, none⟩ = some (.string a0_3) := (blk_cell zaf.out 3).trans rfl
      have zaK := blk_frozen zaf.out 0
      have zaL := blk_frozen zaf.out 1
      have zaM := blk_frozen zaf.out 2
      have zaN := blk_frozen zaf.out 3
      go_wp2
      repeat (go_quiet (fail); try go_wp2)
      go_meet
      case rel => exact ⟨_, (decide ((a0_3.size : Int) > 40)), M.eqv, H', ⟨by first | omega | exact Nat.le_refl _⟩, ⟨M.bk zaf⟩, ⟨M.up HB⟩⟩
     ·rw [if_neg c10] at H
      have c10b0 : ((a0_2.size : Int) == 32) = false := beq_eq_false_iff_ne.mpr c10
      have c10b1 : ((a0_2.size : Int) != 32) = true := bne_iff_ne.mpr c10
      have H' := Aside0.mk H
      clear H
      have zaO : w3.cell? ⟨zae, 0, none⟩ = some (.int .i64 a0_0) := (blk_cell zaf.out 0).trans rfl
      have zaP : w3.cell? ⟨zae, 1, none⟩ = some (.slice A0_1 l0_1.length c0_1) := (blk_cell zaf.out 1).trans rfl
      have zaQ : w3.cell? ⟨zae, 2, none⟩ = some (.string a0_2) := (blk_cell zaf.out 2).trans rfl
      have zaR : w3.cell? ⟨zae, 3, none⟩ = some (.string a0_3) := (blk_cell zaf.out 3).trans rfl
      have zaS := blk_frozen zaf.out 0
      have zaT := blk_frozen zaf.out 1
      have zaU := blk_frozen zaf.out 2
      have zaV := blk_frozen zaf.out 3
      go_wp2
      repeat (go_quiet (fail); try go_wp2)
      go_meet
      case rel => exact ⟨_, (true), M.eqv, H', ⟨by first | omega | exact Nat.le_refl _⟩, ⟨M.bk zaf⟩, ⟨M.up HB⟩⟩
 case rest =>
  clear HC2
  (try clear c1); (try clear p2); (try clear c4); (try clear c4b0); (try clear c6); (try clear c6b0); (try clear c8); (try clear c8b0); (try clear c8b1); (try clear c10); (try clear c10b0); (try clear c10b1); (try clear zaG); (try clear zaH); (try clear zaI); (try clear zaJ); (try clear zaO); (try clear zaP); (try clear zaQ); (try clear zaR); (try clear zai); (try clear zaj); (try clear zak); (try clear zal); (try clear zaq); (try clear zar); (try clear zas); (try clear zat); (try clear zay); (try clear zaz); (try clear zaA); (try clear zaB); (try clear zaK); (try clear zaL); (try clear zaM); (try clear zaN); (try clear zaS); (try clear zaT); (try clear zaU); (try clear zaV); (try clear zam); (try clear zan); (try clear zao); (try clear zap); (try clear zau); (try clear zav); (try clear zaw); (try clear zax); (try clear zaC); (try clear zaD); (try clear zaE); (try clear zaF)
  obtain ⟨kq, x29_1, rfl, HA, HJ1, zaf, HB⟩ := hcut
  cases kq with
  | zero => exact absurd HA.out (by simp [pleachref35_Is_p.j0])
  | succ kj1 =>
   have H := HA.out
   clear HA
   simp only [pleachref35_Is_p.j0] at H
   by_cases c13 : x29_1 = true
   ·subst c13
    have H1 : (some false) = some r := by rw [if_pos rfl] at H; exact H
    clear H
    have H := H1
    clear H1
    obtain rfl := Option.some.inj H
    go_wp2
    repeat (go_quiet (fail); try go_wp2)
    go_ret
    exact M.fin (M.up HB)
   ·replace c13 := Bool.eq_false_iff.mpr c13
    subst c13
    have H1 : (pleachref35_Is_p.l0 kj1 (l0_1.length : Int) 0 a0_0 l0_1 a0_2 a0_3) = some r := by rw [if_neg (show ¬ (false = true) by decide)] at H; exact H
    clear H
    have H := H1
    clear H1
    have H' := Aside0.mk H
    clear H
    have zaW : wc.cell? ⟨zae, 0, none⟩ = some (.int .i64 a0_0) := (blk_cell zaf.out 0).trans rfl
    have zaX : wc.cell? ⟨zae, 1, none⟩ = some (.slice A0_1 l0_1.length c0_1) := (blk_cell zaf.out 1).trans rfl
    have zaY : wc.cell? ⟨zae, 2, none⟩ = some (.string a0_2) := (blk_cell zaf.out 2).trans rfl
    have zaZ : wc.cell? ⟨zae, 3, none⟩ = some (.string a0_3) := (blk_cell zaf.out 3).trans rfl
    have za0 := blk_frozen zaf.out 0
    have za1 := blk_frozen zaf.out 1
    have za2 := blk_frozen zaf.out 2
    have za3 := blk_frozen zaf.out 3
    go_wp2
    repeat (go_quiet (fail); try go_wp2)
    go_loopg [33] kj1 (fun kq v33 w' => ∃ (x33_2 : Int), v33 = .int .i64 x33_2 ∧ Aside0 (pleachref35_Is_p.l0 kq (l0_1.length : Int) x33_2 a0_0 l0_1 a0_2 a0_3 = some r) ∧ Aside0 (kq ≤ kj1) ∧ Aside0 (w'.heap[zae]? = some (.cells #[.int .i64 a0_0, (.slice A0_1 l0_1.length c0_1), .string a0_2, .string a0_3] 24 (0, 0))) ∧ Aside0 (Below w.heap.size w w'))
    case atStart => exact ⟨(0), M.eqv, H', ⟨Nat.le_refl _⟩, ⟨M.bk zaf⟩, ⟨M.up HB⟩⟩
    case round =>
     clear H'
     (try clear c1); (try clear p2); (try clear c4); (try clear c4b0); (try clear c6); (try clear c6b0); (try clear c8); (try clear c8b0); (try clear c8b1); (try clear c10); (try clear c10b0); (try clear c10b1); (try clear c13); (try clear c14); (try clear zaG); (try clear zaH); (try clear zaI); (try clear zaJ); (try clear zaO); (try clear zaP); (try clear zaQ); (try clear zaR); (try clear zaW); (try clear zaX); (try clear zaY); (try clear zaZ); (try clear zai); (try clear zaj); (try clear zak); (try clear zal); (try clear zaq); (try clear zar); (try clear zas); (try clear zat); (try clear zay); (try clear zaz); (try clear zaA); (try clear zaB); (try clear zaK); (try clear zaL); (try clear zaM); (try clear zaN); (try clear zaS); (try clear zaT); (try clear zaU); (try clear zaV); (try clear za0); (try clear za1); (try clear za2); (try clear za3); (try clear zam); (try clear zan); (try clear zao); (try clear zap); (try clear zau); (try clear zav); (try clear zaw); (try clear zax); (try clear zaC); (try clear zaD); (try clear zaE); (try clear zaF); (try clear p2)
     obtain ⟨x33_2, rfl, HA, HK2, zaf, HB⟩ := hrel
     cases gk with
     | zero => exact absurd HA.out (by simp [pleachref35_Is_p.l0])
     | succ k2 =>
      have H := HA.out
      clear HA
      simp only [pleachref35_Is_p.l0] at H
      by_cases c15 : x33_2 < (l0_1.length : Int)
      ·rw [if_pos c15] at H
       have c15b0 := decide_eq_true c15
       clear c15
       by_cases c16 : 0 ≤ x33_2
       ·rw [if_pos c16] at H
        have c16b0 := decide_eq_true c16
        clear c16
        by_cases c17 : x33_2 < (l0_1.length : Int)
        ·rw [if_pos c17] at H
         have c17b0 := decide_eq_true c17
         clear c17
         by_cases c18 : ((rdOf ByteArray.empty l0_1 x33_2).size : Int) = 32
         ·rw [if_pos c18] at H
          have c18b0 : (((rdOf ByteArray.empty l0_1 x33_2).size : Int) == 32) = true := beq_iff_eq.mpr c18
          have c18b1 : (((rdOf ByteArray.empty l0_1 x33_2).size : Int) != 32) = false := bne_eq_false_iff_eq.mpr c18
          clear c18
          have H' := Aside0.mk H
          clear H
          have za4 : wr.cell? ⟨zae, 0, none⟩ = some (.int .i64 a0_0) := (blk_cell zaf.out 0).trans rfl
          have za5 : wr.cell? ⟨zae, 1, none⟩ = some (.slice A0_1 l0_1.length c0_1) := (blk_cell zaf.out 1).trans rfl
          have za6 : wr.cell? ⟨zae, 2, none⟩ = some (.string a0_2) := (blk_cell zaf.out 2).trans rfl
          have za7 : wr.cell? ⟨zae, 3, none⟩ = some (.string a0_3) := (blk_cell zaf.out 3).trans rfl
          have za8 := blk_frozen zaf.out 0
          have za9 := blk_frozen zaf.out 1
          have zba := blk_frozen zaf.out 2
          have zbb := blk_frozen zaf.out 3
          have p256 : 0 ≤ (x33_2 : Int) := M.dt
          have q256 : x33_2 < (l0_1.length : Int) := M.dt
          obtain ⟨ad256, e256, hx256_0⟩ := Kd.at_string HR0_1.out x33_2 p256 q256
          cases e256
          replace hx256_0 := M.hc HB hx256_0
          replace p256 := eq_true p256
          replace q256 := eq_true q256
          go_wp2
          repeat (go_quiet (fail); try go_wp2)
          go_roundg k2
          case measure => have := HJ1.out; have := HK2.out; omega
          case rel => exact ⟨(wrap64 (x33_2 + 1)), M.eqv, H', ⟨by have := HJ1.out; have := HK2.out; omega⟩, ⟨M.bk zaf⟩, ⟨M.up HB⟩⟩
         ·rw [if_neg c18] at H
          have c18b0 : (((rdOf ByteArray.empty l0_1 x33_2).size : Int) == 32) = false := beq_eq_false_iff_ne.mpr c18
          have c18b1 : (((rdOf ByteArray.empty l0_1 x33_2).size : Int) != 32) = true := bne_iff_ne.mpr c18
          obtain rfl := Option.some.inj H
          have zbc : wr.cell? ⟨zae, 0, none⟩ = some (.int .i64 a0_0) := (blk_cell zaf.out 0).trans rfl
          have zbd : wr.cell? ⟨zae, 1, none⟩ = some (.slice A0_1 l0_1.length c0_1) := (blk_cell zaf.out 1).trans rfl
          have zbe : wr.cell? ⟨zae, 2, none⟩ = some (.string a0_2) := (blk_cell zaf.out 2).trans rfl
          have zbf : wr.cell? ⟨zae, 3, none⟩ = some (.string a0_3) := (blk_cell zaf.out 3).trans rfl
          have zbg := blk_frozen zaf.out 0
          have zbh := blk_frozen zaf.out 1
          have zbi := blk_frozen zaf.out 2
          have zbj := blk_frozen zaf.out 3
          have p256 : 0 ≤ (x33_2 : Int) := M.dt
          have q256 : x33_2 < (l0_1.length : Int) := M.dt
          obtain ⟨ad256, e256, hx256_0⟩ := Kd.at_string HR0_1.out x33_2 p256 q256
          cases e256
          replace hx256_0 := M.hc HB hx256_0
          replace p256 := eq_true p256
          replace q256 := eq_true q256
          go_wp2
          repeat (go_quiet (fail); try go_wp2)
          go_ret
          exact M.fin (M.up HB)
        ·exact M.nf c17 H
       ·exact M.nf c16 H
      ·rw [if_neg c15] at H
       have c15b0 := decide_eq_false c15
       clear c15
       by_cases c21 : (l0_1.length : Int) < 2
       ·rw [if_pos c21] at H
        have c21b0 := decide_eq_true c21
        have c21b1 : decide (l0_1.length < 2) = true := decide_eq_true (by omega)
        clear c21
        obtain rfl := Option.some.inj H
        have zbk : wr.cell? ⟨zae, 0, none⟩ = some (.int .i64 a0_0) := (blk_cell zaf.out 0).trans rfl
        have zbl : wr.cell? ⟨zae, 1, none⟩ = some (.slice A0_1 l0_1.length c0_1) := (blk_cell zaf.out 1).trans rfl
        have zbm : wr.cell? ⟨zae, 2, none⟩ = some (.string a0_2) := (blk_cell zaf.out 2).trans rfl
        have zbn : wr.cell? ⟨zae, 3, none⟩ = some (.string a0_3) := (blk_cell zaf.out 3).trans rfl
        have zbo := blk_frozen zaf.out 0
        have zbp := blk_frozen zaf.out 1
        have zbq := blk_frozen zaf.out 2
        have zbr := blk_frozen zaf.out 3
        go_wp2
        repeat (go_quiet (fail); try go_wp2)
        go_ret
        exact M.fin (M.up HB)
       ·rw [if_neg c21] at H
        have c21b0 := decide_eq_false c21
        have c21b1 : decide (l0_1.length < 2) = false := decide_eq_false (by omega)
        clear c21
        by_cases c23 : 0 < (l0_1.length : Int)
        ·rw [if_pos c23] at H
         have c23b0 := decide_eq_true c23
         have c23b1 : decide (0 < l0_1.length) = true := decide_eq_true (by omega)
         clear c23
         by_cases c24 : 1 < (l0_1.length : Int)
         ·rw [if_pos c24] at H
          have c24b0 := decide_eq_true c24
          have c24b1 : decide (1 < l0_1.length) = true := decide_eq_true (by omega)
          clear c24
          obtain rfl := Option.some.inj H
          have zbs : wr.cell? ⟨zae, 0, none⟩ = some (.int .i64 a0_0) := (blk_cell zaf.out 0).trans rfl
          have zbt : wr.cell? ⟨zae, 1, none⟩ = some (.slice A0_1 l0_1.length c0_1) := (blk_cell zaf.out 1).trans rfl
          have zbu : wr.cell? ⟨zae, 2, none⟩ = some (.string a0_2) := (blk_cell zaf.out 2).trans rfl
          have zbv : wr.cell? ⟨zae, 3, none⟩ = some (.string a0_3) := (blk_cell zaf.out 3).trans rfl
          have zbw := blk_frozen zaf.out 0
          have zbx := blk_frozen zaf.out 1
          have zby := blk_frozen zaf.out 2
          have zbz := blk_frozen zaf.out 3
          have p254 : 0 ≤ (0 : Int) := (by omega)
          have q254 : 0 < (l0_1.length : Int) := M.dt
          obtain ⟨ad254, e254, hx254_0⟩ := Kd.at_string HR0_1.out 0 p254 q254
          cases e254
          have qi254 : (0 < l0_1.length) = True := eq_true (by omega)
          (try rw [show ((0 : Int)).toNat = 0 from rfl] at hx254_0)
          (try rw [Addr.add_zero'] at hx254_0)
          replace hx254_0 := M.hc HB hx254_0
          replace p254 := eq_true p254
          replace q254 := eq_true q254
          have p255 : 0 ≤ (1 : Int) := (by omega)
          have q255 : 1 < (l0_1.length : Int) := M.dt
          obtain ⟨ad255, e255, hx255_0⟩ := Kd.at_string HR0_1.out 1 p255 q255
          obtain rfl : ad254 = ad255 := (by injection e255)
          (try simp only [show (1 : Int).toNat = 1 from rfl, Nat.reduceMul, Nat.reduceEqDiff, Go.Addr.add, ↓reduceIte] at hx255_0)
          have qi255 : (1 < l0_1.length) = True := eq_true (by omega)
          (try rw [show ((1 : Int)).toNat = 1 from rfl] at hx255_0)
          replace hx255_0 := M.hc HB hx255_0
          replace p255 := eq_true p255
          replace q255 := eq_true q255
          go_wp2
          repeat (go_quiet (fail); try go_wp2)
          go_ret
          exact M.fin (M.up HB)
         ·exact M.nf c24 H
        ·exact M.nf c23 H
def pleachref35_Is.f (a0_0 : Int) (l0_1 : List ByteArray) (a0_2 : ByteArray) (a0_3 : ByteArray) : Option Bool := some (decide (M.isC a0_0 l0_1 a0_2 a0_3))
theorem pleachref35_Is.ne {a b : ByteArray} : (a.toList != b.toList) = decide (a ≠ b) := by
 by_cases h : a = b
 ·subst h; simp
 ·rw [decide_eq_true h, bne_iff_ne, M.toList_bs, M.toList_bs]
  exact fun e => h (M.bs_inj e)
theorem pleachref35_Is.loop (n : Int) (ps : List ByteArray) (g note : ByteArray) (hl : ps.length ≤ 2) :
    pleachref35_Is_p.l0 9 (ps.length : Int) 0 n ps g note = some (decide ((∀ p ∈ ps, p.size = 32) ∧ (ps.length = 2 → ps.getD 0 ByteArray.empty ≠ ps.getD 1 ByteArray.empty))) := by
 match ps, hl with
 | [], _ => rw [pleachref35_Is_p.l0, if_neg (by simp), if_pos (by simp), decide_eq_true ⟨by simp, by simp⟩]
 | [a], _ =>
  have r0 : rdOf ByteArray.empty [a] 0 = a := rfl
  rw [pleachref35_Is_p.l0, if_pos (by simp), if_pos (by decide), if_pos (by simp), r0]
  by_cases ha : a.size = 32
  ·rw [if_pos (by omega), show wrap64 (0 + 1) = 1 from M.wrap64_id (i := 1) (by decide) (by decide), pleachref35_Is_p.l0, if_neg (by simp), if_pos (by simp), decide_eq_true ⟨by simp [ha], by simp⟩]
  ·rw [if_neg (by omega), decide_eq_false (fun z => ha (z.1 a List.mem_cons_self))]
 | [a, b], _ =>
  have r0 : rdOf ByteArray.empty [a, b] 0 = a := rfl
  have r1 : rdOf ByteArray.empty [a, b] 1 = b := rfl
  rw [pleachref35_Is_p.l0, if_pos (by simp), if_pos (by decide), if_pos (by simp), r0]
  by_cases ha : a.size = 32
  ·rw [if_pos (by omega), show wrap64 (0 + 1) = 1 from M.wrap64_id (i := 1) (by decide) (by decide), pleachref35_Is_p.l0, if_pos (by simp), if_pos (by decide), if_pos (by simp), r1]
   by_cases hb : b.size = 32
   ·rw [if_pos (by omega), show wrap64 (1 + 1) = 2 from M.wrap64_id (i := 2) (by decide) (by decide), pleachref35_Is_p.l0, if_neg (by simp), if_neg (by simp), if_pos (by simp), if_pos (by simp), r0, r1, pleachref35_Is.ne]
    congr 1
    exact decide_eq_decide.2 ⟨fun h => ⟨by simp [ha, hb], fun _ => h⟩, fun h => h.2 rfl⟩
   ·rw [if_neg (by omega), decide_eq_false (fun z => hb (z.1 b (by simp)))]
  ·rw [if_neg (by omega), decide_eq_false (fun z => ha (z.1 a List.mem_cons_self))]
theorem pleachref35_Is.ev (n : Int) (ps : List ByteArray) (g note : ByteArray) (r : Bool) (h : pleachref35_Is.f n ps g note = some r) : ∃ k, pleachref35_Is_p.f k n ps g note = some r := by
 unfold pleachref35_Is.f at h
 obtain rfl := Option.some.inj h
 refine ⟨10, ?_⟩
 unfold pleachref35_Is_p.f
 by_cases c1 : n < 1
 ·rw [if_pos c1, pleachref35_Is_p.j0, if_pos rfl, decide_eq_false (fun z => by have := z.1.1; omega)]
 rw [if_neg c1]
 by_cases c2 : n > 4294967295
 ·rw [if_pos c2, pleachref35_Is_p.j0, if_pos rfl, decide_eq_false (fun z => by have := z.1.2; omega)]
 rw [if_neg c2]
 by_cases c3 : ps.length > 2
 ·rw [if_pos (by omega), pleachref35_Is_p.j0, if_pos rfl, decide_eq_false (fun z => by have := z.2.1; omega)]
 rw [if_neg (by omega)]
 by_cases c4 : g.size = 32
 ·rw [if_pos (by omega), pleachref35_Is_p.j0]
  by_cases c5 : note.size > 40
  ·rw [if_pos (decide_eq_true (by omega)), decide_eq_false (fun z => by have := z.2.2.2.1; omega)]
  ·rw [if_neg (by simp; omega), pleachref35_Is.loop n ps g note (by omega)]
   congr 1
   exact decide_eq_decide.2 ⟨fun c6 => ⟨⟨by omega, by omega⟩, by omega, c4, by omega, c6⟩, fun z => z.2.2.2.2⟩
 ·rw [if_neg (by omega), pleachref35_Is_p.j0, if_pos rfl, decide_eq_false (fun z => c4 z.2.2.1)]
theorem pleachref35_Is.calls (a0_0 : Int) (A0_1 : Option Addr) (c0_1 : Nat) (l0_1 : List ByteArray) (a0_2 : ByteArray) (a0_3 : ByteArray) (r : Bool) (w : World) (hr0_1 : Kd.C Kd.string w A0_1 l0_1.length l0_1) (hc0_1 : l0_1.length ≤ c0_1) (h : pleachref35_Is.f a0_0 l0_1 a0_2 a0_3 = some r) :
    Calls Tryd.prog 14 #[.agg #[.int .i64 a0_0, .slice A0_1 l0_1.length c0_1, .string a0_2, .string a0_3]] w fun e w' => e = .returned (.bool r) ∧ Below w.heap.size w w' := by
 obtain ⟨k, hk⟩ := pleachref35_Is.ev _ _ _ _ _ h
 exact pleachref35_Is_p.calls (k := k) (w := w) (h := hk) (hr0_1 := hr0_1) (hc0_1 := hc0_1)
def pleachref01_Digits_p.l0 : Nat → Int → List Int → Option (List Int)
  | 0, _, _ => none
  | k + 1, x0, x3 => if x0 > 0 then (if x3.length < 17592186044416 then (pleachref01_Digits_p.l0 k (IntKind.u64.wrap (Int.tdiv x0 128)) (x3 ++ [wrap64 (Int.tmod x0 128)])) else (none)) else (some x3)
def pleachref01_Digits_p.f (k : Nat) (a0 : Int) : Option (List Int) := pleachref01_Digits_p.l0 k (IntKind.u64.wrap (Int.tdiv a0 128)) (([wrap64 (Int.tmod a0 128)] : List Int))
theorem pleachref01_Digits_p.mono_l : ∀ k, (∀ y0 y1, LeO (pleachref01_Digits_p.l0 k y0 y1) (pleachref01_Digits_p.l0 (k + 1) y0 y1))
  | 0 => fun _ _ r h => by simp [pleachref01_Digits_p.l0] at h
  | k + 1 => by
    have ih0 := pleachref01_Digits_p.mono_l k
    · intro y0 y1
      unfold pleachref01_Digits_p.l0
      repeat' first
      | (with_reducible exact ih0 _ _)
      | (with_reducible exact LeO.refl _)
      | (with_reducible exact LeO.none _)
      | (with_reducible refine LeO.ite ?_ ?_)
      | (with_reducible refine LeO.bind ?_ (fun _ => ?_))
      | exact ih0 _ _
      | exact LeO.none _
      | refine LeO.ite ?_ ?_
      | refine LeO.bind ?_ (fun _ => ?_)
theorem pleachref01_Digits_p.mono : ∀ a0 k, LeO (pleachref01_Digits_p.f k a0) (pleachref01_Digits_p.f (k + 1) a0) := by
  intro a0 k
  have ih0 := pleachref01_Digits_p.mono_l k
  unfold pleachref01_Digits_p.f
  repeat' first
      | (with_reducible exact ih0 _ _)
      | (with_reducible exact LeO.refl _)
      | (with_reducible exact LeO.none _)
      | (with_reducible refine LeO.ite ?_ ?_)
      | (with_reducible refine LeO.bind ?_ (fun _ => ?_))
      | exact ih0 _ _
      | exact LeO.none _
      | refine LeO.ite ?_ ?_
      | refine LeO.bind ?_ (fun _ => ?_)
set_option maxHeartbeats 8000000 in
set_option maxRecDepth 100000 in
theorem pleachref01_Digits_p.calls (k : Nat) (a0 : Int) (r : List Int) (w : World) (h : pleachref01_Digits_p.f k a0 = some r) :
    Calls Tryd.prog 69 #[.int .u64 a0] w fun e w' => ∃ v0_ : Value, e = .returned (v0_) ∧ Kd.R (Kd.int .i64) 3 w' w.heap.size (fun _ => True) v0_ r ∧ Below w.heap.size w w' := by
 have HB := Aside0.mk (Below.refl w.heap.size w)
 have H : (pleachref01_Digits_p.l0 k (IntKind.u64.wrap (Int.tdiv a0 128)) (([wrap64 (Int.tmod a0 128)] : List Int))) = some r := h
 clear h
 obtain ⟨y257, hy257⟩ : ∃ y_ : List Int, y_ = (([wrap64 (Int.tmod a0 128)] : List Int)) := ⟨_, rfl⟩
 replace H : (pleachref01_Digits_p.l0 k (IntKind.u64.wrap (Int.tdiv a0 128)) y257) = some r := by first | (rw [hy257]; with_reducible exact H) | (have H2_ := (Option.bind_some _ _).symm.trans H; rw [hy257]; with_reducible exact H2_) | (have H2_ := (Option.bind_some _ _).symm.trans H; with_reducible exact H2_) | with_reducible exact H | (rw [hy257]; exact H) | exact H
 have Ny257 := Aside0.mk hy257
 clear hy257
 have H' := Aside0.mk H
 clear H
 go_enter Tryd.func69, Tryd.ntmps69
 go_wp2_with (first | ((with_reducible refine gate_dst (N := 7) rfl ?_); refine Kd.R_lit (Kd.int .i64) _ 3 ?hg (N := 7) ?hd (xs := ([wrap64 (Int.tmod a0 128)] : List Int)) (inner := [.int .i64 (wrap64 (Int.tmod a0 128))]) (ok := fun _ => True) (okp := fun _ => True) ?hr ?hp (fun _ hk => hk) trivial (Below.refl _ _) (Nat.le_refl _) (by simp) ?_; (case hd => rfl); (case hg => rfl); (case hr => first | (go_simp; done) | (go_simp; rfl)); (case hp => exact (Reps.one (show Kd.M (Kd.int .i64) _ _ _ (wrap64 (Int.tmod a0 128)) [.int .i64 (wrap64 (Int.tmod a0 128))] from rfl) (Reps.none _ _))); intro v258 w2 ho3 hb hg_ hnew_; clear hg_ hnew_; (first | rw [← Ny257.out] at ho3 | (simp only [Int.reduceToNat] at ho3; rw [← Ny257.out] at ho3)); have HO259 := Aside0.mk (Kd.R_lower ho3 (below_size (M.up HB))); replace HB := M.upS HB hb; clear hb ho3))
 go_loopg [0, 3] k (fun kq v0 v3 w' => ∃ (x0_1 : Int) (x3_1 : List Int), v0 = .int .u64 x0_1 ∧ Aside0 (pleachref01_Digits_p.l0 kq x0_1 x3_1 = some r) ∧ Aside0 (kq ≤ k) ∧ Aside0 (Kd.R (Kd.int .i64) 3 w' w.heap.size (fun _ => True) v3 x3_1) ∧ Aside0 (Below w.heap.size w w'))
 case atStart => exact ⟨(IntKind.u64.wrap (Int.tdiv a0 128)), (y257), M.eqv, H', ⟨Nat.le_refl _⟩, ⟨by (with_reducible repeat (first | apply Kd.R_alloc | apply Kd.R_drewN | apply Kd.R_drew)); exact HO259.out⟩, ⟨M.up HB⟩⟩
 case round =>
  clear H'
  try clear p2
  obtain ⟨x0_1, x3_1, rfl, HA, HK1, zbA, HB⟩ := hrel
  cases gk with
  | zero => exact absurd HA.out (by simp [pleachref01_Digits_p.l0])
  | succ k1 =>
   have H := HA.out
   clear HA
   simp only [pleachref01_Digits_p.l0] at H
   by_cases c4 : x0_1 > 0
   ·rw [if_pos c4] at H
    have c4b0 := decide_eq_true c4
    clear c4
    by_cases c5 : x3_1.length < 17592186044416
    ·rw [if_pos c5] at H
     have LMc5 := Aside0.mk c5
     clear c5
     obtain ⟨y260, hy260⟩ : ∃ y_ : List Int, y_ = (x3_1 ++ [wrap64 (Int.tmod x0_1 128)]) := ⟨_, rfl⟩
     replace H : (pleachref01_Digits_p.l0 k1 (IntKind.u64.wrap (Int.tdiv x0_1 128)) y260) = some r := by first | (rw [hy260]; with_reducible exact H) | (have H2_ := (Option.bind_some _ _).symm.trans H; rw [hy260]; with_reducible exact H2_) | (have H2_ := (Option.bind_some _ _).symm.trans H; with_reducible exact H2_) | with_reducible exact H | (rw [hy260]; exact H) | exact H
     have Ny260 := Aside0.mk hy260
     clear hy260
     have H' := Aside0.mk H
     clear H
     go_wp2_with (first | ((with_reducible refine gate_builtin (b := .append) (xs := #[.tmp 12, .tmp 16]) rfl ?_); at_builtin; refine Kd.R_append (Kd.int .i64) (w0 := w) w.heap.size rfl (.tmp 12) (.tmp 16) 60 3 (.int .i64 0) 8 rfl Tryd.underlying60 info3 rfl (by decide) (by omega) u3 x3_1 (wrap64 (Int.tmod x0_1 128)) [.int .i64 (wrap64 (Int.tmod x0_1 128))] (fun _ => True) (fun _ => False) rfl rfl ?aP (fun _ hk => hk.elim) ?aF ?aO ?aB ?aS ?aL ?_; (case aP => exact rfl); (case aB => exact (M.up HB)); (case aF => exact (fun _ _ => trivial)); (case aO => exact (M.ro zbA)); (case aS => exact (below_size (M.up HB))); (case aL => have := LMc5.out; omega); intro v261 w6 ho hb hg hat; rw [← Ny260.out] at ho; replace HB := Aside0.mk (hb); have HO262 := Aside0.mk (ho); clear zbA; clear ho hb hg hat))
     go_roundg k1
     case measure => have := HK1.out; omega
     case rel => exact ⟨(IntKind.u64.wrap (Int.tdiv x0_1 128)), (y260), M.eqv, H', ⟨by have := HK1.out; omega⟩, ⟨by (with_reducible repeat (first | apply Kd.R_alloc | apply Kd.R_drewN | apply Kd.R_drew)); exact HO262.out⟩, ⟨M.up HB⟩⟩
    ·exact M.nf c5 H
   ·rw [if_neg c4] at H
    have c4b0 := decide_eq_false c4
    clear c4
    obtain rfl := Option.some.inj H
    go_wp2
    go_ret
    exact ⟨_, M.eqe, by (with_reducible repeat (first | apply Kd.R_alloc | apply Kd.R_drewN | apply Kd.R_drew)); exact zbA.out, M.up HB⟩
def pleachref01_Digits.f (a0 : Int) : Option (List Int) := if 0 ≤ a0 ∧ a0 < 18446744073709551616 then some (M.vdig a0.toNat) else none
theorem pleachref01_Digits.loop (d : Nat) : ∀ (m : Nat) (pre : List Int), m < 128 ^ d → m < 18446744073709551616 → pre.length + d ≤ 100 →
    ∃ k, pleachref01_Digits_p.l0 k (m : Int) pre = some (if m = 0 then pre else pre ++ M.vdig m) := by
  induction d with
  | zero => ?_
  | succ d ih => ?_
  all_goals
    intro m pre hm h64 hl
    by_cases h0 : m = 0
    case pos => exact ⟨1, by simp only [pleachref01_Digits_p.l0]; rw [if_neg (by omega), if_pos h0]⟩
    case neg =>
      first
      | (exfalso; simp at hm; omega)
      | (obtain ⟨k, hk⟩ := ih (m / 128) (pre ++ [((m % 128 : Nat) : Int)]) (by rw [Nat.pow_succ] at hm; omega) (by omega) (by simp; omega)
         refine ⟨k + 1, ?_⟩
         have e1 : IntKind.u64.wrap (Int.tdiv (m : Int) 128) = ((m / 128 : Nat) : Int) := by
           rw [Int.tdiv_eq_ediv_of_nonneg (by omega), M.u64_id (by omega) (by omega)]; omega
         have e2 : wrap64 (Int.tmod (m : Int) 128) = ((m % 128 : Nat) : Int) := by
           rw [Int.tmod_eq_emod_of_nonneg (by omega), M.wrap64_id (by omega) (by omega)]; omega
         simp only [pleachref01_Digits_p.l0]
         rw [if_pos (by omega), if_pos (by omega), e1, e2, hk, if_neg h0]
         by_cases h1 : m < 128
         · rw [if_pos (by omega), M.vdig_low h1, Nat.mod_eq_of_lt h1]
         · rw [if_neg (by omega), M.vdig_high h1]; simp)
theorem pleachref01_Digits.ev (a0 : Int) (r : List Int) (h : pleachref01_Digits.f a0 = some r) : ∃ k, pleachref01_Digits_p.f k a0 = some r := by
 unfold pleachref01_Digits.f at h
 split at h
 ·rename_i hh
  obtain rfl := Option.some.inj h
  obtain ⟨m, rfl⟩ := Int.eq_ofNat_of_zero_le hh.1
  have e1 : IntKind.u64.wrap (Int.tdiv (m : Int) 128) = ((m / 128 : Nat) : Int) := by
   rw [Int.tdiv_eq_ediv_of_nonneg (by omega), M.u64_id (by omega) (by omega)]; omega
  have e2 : wrap64 (Int.tmod (m : Int) 128) = ((m % 128 : Nat) : Int) := by
   rw [Int.tmod_eq_emod_of_nonneg (by omega), M.wrap64_id (by omega) (by omega)]; omega
  obtain ⟨k, hk⟩ := pleachref01_Digits.loop 9 (m / 128) [((m % 128 : Nat) : Int)] (by omega) (by omega) (by simp)
  refine ⟨k, ?_⟩
  unfold pleachref01_Digits_p.f
  rw [e1, e2, hk, Int.toNat_natCast]
  by_cases h1 : m < 128
  ·rw [if_pos (by omega), M.vdig_low h1, Nat.mod_eq_of_lt h1]
  ·rw [if_neg (by omega), M.vdig_high h1]; simp
 ·cases h
theorem pleachref01_Digits.calls (a0 : Int) (r : List Int) (w : World) (h : pleachref01_Digits.f a0 = some r) :
    Calls Tryd.prog 69 #[.int .u64 a0] w fun e w' => ∃ v0_ : Value, e = .returned (v0_) ∧ Kd.R (Kd.int .i64) 3 w' w.heap.size (fun _ => True) v0_ r ∧ Below w.heap.size w w' := by
 obtain ⟨k, hk⟩ := pleachref01_Digits.ev _ _ h
 exact pleachref01_Digits_p.calls (k := k) (w := w) (h := hk)
def pleachref01_Put_p.l0 : Nat → List Int → ByteArray → Int → Option (ByteArray)
  | 0, _, _, _ => none
  | k + 1, x3, x4, x5 => if x5 < (x3.length : Int) then (if 0 ≤ x5 then (if (wrap64 (x5 + 1)) < (x3.length : Int) then ((some (([(wrap64 ((rd x3 x5) + 128)) % 256] : List Int) : List Int)).bind fun y267 => (if x4.size + (strOfNums y267).size ≤ 9223372036854775807 then (pleachref01_Put_p.l0 k x3 (x4 ++ (strOfNums y267)) (wrap64 (x5 + 1))) else (none))) else ((some (([(rd x3 x5) % 256] : List Int) : List Int)).bind fun y270 => (if x4.size + (strOfNums y270).size ≤ 9223372036854775807 then (pleachref01_Put_p.l0 k x3 (x4 ++ (strOfNums y270)) (wrap64 (x5 + 1))) else (none)))) else (none)) else (some x4)
def pleachref01_Put_p.f (k : Nat) (a0 : Int) : Option (ByteArray) := (pleachref01_Digits.f a0).bind fun t263 => (pleachref01_Put_p.l0 k t263 (⟨#[]⟩ : ByteArray) 0)
theorem pleachref01_Put_p.mono_l : ∀ k, (∀ y0 y1 y2, LeO (pleachref01_Put_p.l0 k y0 y1 y2) (pleachref01_Put_p.l0 (k + 1) y0 y1 y2))
  | 0 => fun _ _ _ r h => by simp [pleachref01_Put_p.l0] at h
  | k + 1 => by
    have ih0 := pleachref01_Put_p.mono_l k
    · intro y0 y1 y2
      unfold pleachref01_Put_p.l0
      repeat' first
      | (with_reducible exact ih0 _ _ _)
      | (with_reducible exact LeO.refl _)
      | (with_reducible exact LeO.none _)
      | (with_reducible refine LeO.ite ?_ ?_)
      | (with_reducible refine LeO.bind ?_ (fun _ => ?_))
      | exact ih0 _ _ _
      | exact LeO.none _
      | refine LeO.ite ?_ ?_
      | refine LeO.bind ?_ (fun _ => ?_)
theorem pleachref01_Put_p.mono : ∀ a0 k, LeO (pleachref01_Put_p.f k a0) (pleachref01_Put_p.f (k + 1) a0) := by
  intro a0 k
  have ih0 := pleachref01_Put_p.mono_l k
  unfold pleachref01_Put_p.f
  repeat' first
      | (with_reducible exact ih0 _ _ _)
      | (with_reducible exact LeO.refl _)
      | (with_reducible exact LeO.none _)
      | (with_reducible refine LeO.ite ?_ ?_)
      | (with_reducible refine LeO.bind ?_ (fun _ => ?_))
      | exact ih0 _ _ _
      | exact LeO.none _
      | refine LeO.ite ?_ ?_
      | refine LeO.bind ?_ (fun _ => ?_)
set_option maxHeartbeats 8000000 in
set_option maxRecDepth 100000 in
theorem pleachref01_Put_p.calls (k : Nat) (a0 : Int) (r : ByteArray) (w : World) (h : pleachref01_Put_p.f k a0 = some r) :
    Calls Tryd.prog 60 #[.int .u64 a0] w fun e w' => e = .returned (.string r) ∧ Below w.heap.size w w' := by
 have HB := Aside0.mk (Below.refl w.heap.size w)
 have H : ((pleachref01_Digits.f a0).bind fun t263 => (pleachref01_Put_p.l0 k t263 (⟨#[]⟩ : ByteArray) 0)) = some r := h
 clear h
 replace H := Option.bind_eq_some_iff.mp H
 obtain ⟨t263, A20, H⟩ := H
 replace H : (pleachref01_Put_p.l0 k t263 (⟨#[]⟩ : ByteArray) 0) = some r := H
 have A2 := Aside0.mk A20
 clear A20
 have H' := Aside0.mk H
 clear H
 go_enter Tryd.func60, Tryd.ntmps60
 go_wp2_with (first | ((with_reducible refine gate_callee (f := 69) rfl ?_); refine M.goes (some 8) Tryd.func69 #[.int .u64 a0] rfl ?_; (with_reducible refine (pleachref01_Digits.calls a0 t263 _ A2.out).mono ?_); rintro e w3 ⟨v264, rfl, ho0, hb⟩; refine ⟨_, rfl, ?_⟩; have HO265 := Aside0.mk (Kd.R_lower ho0 (below_size (M.up HB))); replace HB := M.upS HB hb; (try clear hb); (try clear ho0)))
 go_loopg [4, 5] k (fun kq v4 v5 w' => ∃ (x4_1 : ByteArray) (x5_1 : Int), v4 = .string x4_1 ∧ v5 = .int .i64 x5_1 ∧ Aside0 (pleachref01_Put_p.l0 kq t263 x4_1 x5_1 = some r) ∧ Aside0 (kq ≤ k) ∧ Aside0 (Kd.R (Kd.int .i64) 3 w' w.heap.size (fun _ => True) v264 t263) ∧ Aside0 (Below w.heap.size w w'))
 case atStart => exact ⟨((⟨#[]⟩ : ByteArray)), (0), M.eqv, M.eqv, H', ⟨Nat.le_refl _⟩, ⟨by (with_reducible repeat (first | apply Kd.R_alloc | apply Kd.R_drewN | apply Kd.R_drew)); exact HO265.out⟩, ⟨M.up HB⟩⟩
 case round =>
  clear H'
  try clear p2
  obtain ⟨x4_1, x5_1, rfl, rfl, HA, HK1, zaa, HB⟩ := hrel
  cases gk with
  | zero => exact absurd HA.out (by simp [pleachref01_Put_p.l0])
  | succ k1 =>
   have H := HA.out
   clear HA
   simp only [pleachref01_Put_p.l0] at H
   by_cases c4 : x5_1 < (t263.length : Int)
   ·rw [if_pos c4] at H
    have c4b0 := decide_eq_true c4
    clear c4
    by_cases c5 : 0 ≤ x5_1
    ·rw [if_pos c5] at H
     have c5b0 := decide_eq_true c5
     clear c5
     by_cases c6 : (wrap64 (x5_1 + 1)) < (t263.length : Int)
     ·rw [if_pos c6] at H
      have c6b0 := decide_eq_true c6
      clear c6
      obtain ⟨y267, hy267⟩ : ∃ y_ : List Int, y_ = (([(wrap64 ((rd t263 x5_1) + 128)) % 256] : List Int)) := ⟨_, rfl⟩
      replace H : (if x4_1.size + (strOfNums y267).size ≤ 9223372036854775807 then (pleachref01_Put_p.l0 k1 t263 (x4_1 ++ (strOfNums y267)) (wrap64 (x5_1 + 1))) else (none)) = some r := by first | (rw [hy267]; with_reducible exact H) | (have H2_ := (Option.bind_some _ _).symm.trans H; rw [hy267]; with_reducible exact H2_) | (have H2_ := (Option.bind_some _ _).symm.trans H; with_reducible exact H2_) | with_reducible exact H | (rw [hy267]; exact H) | exact H
      have Ny267 := Aside0.mk hy267
      clear hy267
      by_cases c7 : x4_1.size + (strOfNums y267).size ≤ 9223372036854775807
      ·rw [if_pos c7] at H
       have c7b0 := eq_true c7
       have c7b1 := decide_eq_true c7
       try have c7b2 : (9223372036854775807 < x4_1.size + (strOfNums y267).size) = False := eq_false (Nat.not_lt.2 c7)
       have H' := Aside0.mk H
       clear H
       obtain ⟨Ao8, co8, eo8⟩ := Kd.R_slice zaa.out
       subst eo8
       have p266 : 0 ≤ (x5_1 : Int) := M.dt
       have q266 : x5_1 < (t263.length : Int) := M.dt
       obtain ⟨ad266, e266, hx266_0⟩ := Kd.at_int (Kd.R_reads' zaa.out).2.2 x5_1 p266 q266
       cases e266
       replace p266 := eq_true p266
       replace q266 := eq_true q266
       go_wp2_with (first | ((with_reducible refine gate_dst (N := 29) rfl ?_); refine Kd.R_lit (Kd.int .u8) _ 5 ?hg (N := 29) ?hd (xs := ([(wrap64 ((rd t263 x5_1) + 128)) % 256] : List Int)) (inner := [.int .u8 ((wrap64 ((rd t263 x5_1) + 128)) % 256)]) (ok := fun _ => True) (okp := fun _ => True) ?hr ?hp (fun _ hk => hk) trivial (Below.refl _ _) (Nat.le_refl _) (by simp) ?_; (case hd => rfl); (case hg => rfl); (case hr => first | (go_simp; done) | (go_simp; rfl)); (case hp => exact (Reps.one (show Kd.M (Kd.int .u8) _ _ _ ((wrap64 ((rd t263 x5_1) + 128)) % 256) [.int .u8 ((wrap64 ((rd t263 x5_1) + 128)) % 256)] from rfl) (Reps.none _ _))); intro v268 w9 ho10 hb hg_ hnew_; clear hg_ hnew_; (first | rw [← Ny267.out] at ho10 | (simp only [Int.reduceToNat] at ho10; rw [← Ny267.out] at ho10)); replace zaa := M.roB zaa hb; have HO269 := Aside0.mk (Kd.R_lower ho10 (below_size (M.up HB))); replace HB := M.upS HB hb; clear hb ho10; have hcv11 := own_string (P := Tryd.prog) Tryd.underlying76 Tryd.underlying5 Tryd.underlying9 (Kd.own_of_R HO269.out)))
       go_roundg k1
       case measure => have := HK1.out; omega
       case rel => exact ⟨(x4_1 ++ (strOfNums y267)), (wrap64 (x5_1 + 1)), M.eqv, M.eqv, H', ⟨by have := HK1.out; omega⟩, ⟨by (with_reducible repeat (first | apply Kd.R_alloc | apply Kd.R_drewN | apply Kd.R_drew)); exact zaa.out⟩, ⟨M.up HB⟩⟩
      ·exact M.nf c7 H
     ·rw [if_neg c6] at H
      have c6b0 := decide_eq_false c6
      clear c6
      obtain ⟨y270, hy270⟩ : ∃ y_ : List Int, y_ = (([(rd t263 x5_1) % 256] : List Int)) := ⟨_, rfl⟩
      replace H : (if x4_1.size + (strOfNums y270).size ≤ 9223372036854775807 then (pleachref01_Put_p.l0 k1 t263 (x4_1 ++ (strOfNums y270)) (wrap64 (x5_1 + 1))) else (none)) = some r := by first | (rw [hy270]; with_reducible exact H) | (have H2_ := (Option.bind_some _ _).symm.trans H; rw [hy270]; with_reducible exact H2_) | (have H2_ := (Option.bind_some _ _).symm.trans H; with_reducible exact H2_) | with_reducible exact H | (rw [hy270]; exact H) | exact H
      have Ny270 := Aside0.mk hy270
      clear hy270
      by_cases c12 : x4_1.size + (strOfNums y270).size ≤ 9223372036854775807
      ·rw [if_pos c12] at H
       have c12b0 := eq_true c12
       have c12b1 := decide_eq_true c12
       try have c12b2 : (9223372036854775807 < x4_1.size + (strOfNums y270).size) = False := eq_false (Nat.not_lt.2 c12)
       have H' := Aside0.mk H
       clear H
       obtain ⟨Ao13, co13, eo13⟩ := Kd.R_slice zaa.out
       subst eo13
       have p266 : 0 ≤ (x5_1 : Int) := M.dt
       have q266 : x5_1 < (t263.length : Int) := M.dt
       obtain ⟨ad266, e266, hx266_0⟩ := Kd.at_int (Kd.R_reads' zaa.out).2.2 x5_1 p266 q266
       cases e266
       replace p266 := eq_true p266
       replace q266 := eq_true q266
       go_wp2_with (first | ((with_reducible refine gate_dst (N := 29) rfl ?_); refine Kd.R_lit (Kd.int .u8) _ 5 ?hg (N := 29) ?hd (xs := ([(rd t263 x5_1) % 256] : List Int)) (inner := [.int .u8 ((rd t263 x5_1) % 256)]) (ok := fun _ => True) (okp := fun _ => True) ?hr ?hp (fun _ hk => hk) trivial (Below.refl _ _) (Nat.le_refl _) (by simp) ?_; (case hd => rfl); (case hg => rfl); (case hr => first | (go_simp; done) | (go_simp; rfl)); (case hp => exact (Reps.one (show Kd.M (Kd.int .u8) _ _ _ ((rd t263 x5_1) % 256) [.int .u8 ((rd t263 x5_1) % 256)] from rfl) (Reps.none _ _))); intro v271 w14 ho15 hb hg_ hnew_; clear hg_ hnew_; (first | rw [← Ny270.out] at ho15 | (simp only [Int.reduceToNat] at ho15; rw [← Ny270.out] at ho15)); replace zaa := M.roB zaa hb; have HO272 := Aside0.mk (Kd.R_lower ho15 (below_size (M.up HB))); replace HB := M.upS HB hb; clear hb ho15; have hcv16 := own_string (P := Tryd.prog) Tryd.underlying76 Tryd.underlying5 Tryd.underlying9 (Kd.own_of_R HO272.out)))
       go_roundg k1
       case measure => have := HK1.out; omega
       case rel => exact ⟨(x4_1 ++ (strOfNums y270)), (wrap64 (x5_1 + 1)), M.eqv, M.eqv, H', ⟨by have := HK1.out; omega⟩, ⟨by (with_reducible repeat (first | apply Kd.R_alloc | apply Kd.R_drewN | apply Kd.R_drew)); exact zaa.out⟩, ⟨M.up HB⟩⟩
      ·exact M.nf c12 H
    ·exact M.nf c5 H
   ·rw [if_neg c4] at H
    have c4b0 := decide_eq_false c4
    clear c4
    obtain rfl := Option.some.inj H
    obtain ⟨Ao17, co17, eo17⟩ := Kd.R_slice zaa.out
    subst eo17
    go_wp2
    go_ret
    exact M.fin (M.up HB)
def pleachref01_Put.f (a0 : Int) : Option ByteArray := if 0 ≤ a0 ∧ a0 < 18446744073709551616 then some (M.sb (M.vb a0.toNat)) else none
theorem pleachref01_Put.one (d : Int) : strOfNums [d] = M.sb [UInt8.ofNat d.toNat] := rfl
theorem pleachref01_Put.loop (l : List Int) (hl : l.length ≤ 10) (hr : ∀ d ∈ l, 0 ≤ d ∧ d < 128) : ∀ (rest pre : List Int) (out : ByteArray), l = pre ++ rest → out.size = pre.length →
    ∃ k, pleachref01_Put_p.l0 k l out (pre.length : Int) = some (out ++ M.sb (M.venc rest)) := by
 intro rest
 induction rest with
 | nil =>
  intro pre out he ho
  refine ⟨1, ?_⟩
  simp only [pleachref01_Put_p.l0]
  rw [if_neg (by rw [he]; simp)]
  congr 1
  exact M.bs_inj (by rw [M.bs_append]; simp [M.venc, M.bs_sb])
 | cons d rest ih =>
  intro pre out he ho
  have hlen : l.length = pre.length + rest.length + 1 := by rw [he]; simp; omega
  have hd := hr d (by rw [he]; simp)
  have hrd : rd l (pre.length : Int) = d := by rw [rd, he]; simp
  have hw : wrap64 ((pre.length : Int) + 1) = ((pre.length + 1 : Nat) : Int) := by rw [M.wrap64_id (by omega) (by omega)]; omega
  have hsz : ∀ x, (strOfNums [x]).size = 1 := fun x => by rw [strOfNums_size]; rfl
  have hp : pre.length + 1 = (pre ++ [d]).length := by simp
  cases rest with
  | nil =>
   obtain ⟨k, hk⟩ := ih (pre ++ [d]) (out ++ M.sb [UInt8.ofNat d.toNat]) (by rw [he]; simp) (by rw [M.size_append, M.size_sb, ho]; simp)
   refine ⟨k + 1, ?_⟩
   have e : (rd l (pre.length : Int)) % 256 = d := by rw [hrd]; omega
   simp only [List.length_nil] at hlen
   simp only [pleachref01_Put_p.l0, Option.bind_some]
   rw [if_pos (by omega), if_pos (by omega), hw, if_neg (by omega), e, hsz, if_pos (by omega), pleachref01_Put.one, hp, hk]
   congr 1
   exact M.bs_inj (by simp [M.bs_append, M.bs_sb, M.venc])
  | cons e rest =>
   obtain ⟨k, hk⟩ := ih (pre ++ [d]) (out ++ M.sb [UInt8.ofNat (d.toNat + 128)]) (by rw [he]; simp) (by rw [M.size_append, M.size_sb, ho]; simp)
   refine ⟨k + 1, ?_⟩
   have e2 : (wrap64 ((rd l (pre.length : Int)) + 128)) % 256 = d + 128 := by rw [hrd, M.wrap64_id (by omega) (by omega)]; omega
   have e3 : (d + 128).toNat = d.toNat + 128 := by omega
   simp only [pleachref01_Put_p.l0, Option.bind_some]
   simp only [List.length_cons] at hlen
   rw [if_pos (by omega), if_pos (by omega), hw, if_pos (by omega), e2, hsz, if_pos (by omega), pleachref01_Put.one, e3, hp, hk]
   congr 1
   exact M.bs_inj (by simp [M.bs_append, M.bs_sb, M.venc_cons])
theorem pleachref01_Put.ev (a0 : Int) (r : ByteArray) (h : pleachref01_Put.f a0 = some r) : ∃ k, pleachref01_Put_p.f k a0 = some r := by
 unfold pleachref01_Put.f at h
 split at h
 ·rename_i hh
  obtain rfl := Option.some.inj h
  obtain ⟨m, rfl⟩ := Int.eq_ofNat_of_zero_le hh.1
  obtain ⟨k, hk⟩ := pleachref01_Put.loop (M.vdig m) (by rw [M.vdig_length]; exact M.vb_le m (by omega)) (M.vdig_range m) (M.vdig m) [] (⟨#[]⟩ : ByteArray) rfl rfl
  refine ⟨k, ?_⟩
  unfold pleachref01_Put_p.f pleachref01_Digits.f
  rw [if_pos hh]
  simp only [Option.bind_some, Int.toNat_natCast]
  refine Eq.trans hk ?_
  congr 1
  exact M.bs_inj (by rw [M.bs_append, M.bs_nil, List.nil_append, M.bs_sb, M.bs_sb, M.venc_vdig])
 ·cases h
theorem pleachref01_Put.calls (a0 : Int) (r : ByteArray) (w : World) (h : pleachref01_Put.f a0 = some r) :
    Calls Tryd.prog 60 #[.int .u64 a0] w fun e w' => e = .returned (.string r) ∧ Below w.heap.size w w' := by
 obtain ⟨k, hk⟩ := pleachref01_Put.ev _ _ h
 exact pleachref01_Put_p.calls (k := k) (w := w) (h := hk)
def pleachref04_PutNum_p.j0 : Nat → Int → Option (ByteArray)
  | 0, _ => none
  | k + 1, x0 => (pleachref01_Put.f (IntKind.u64.wrap (x0))).bind fun t273 => (some t273)
def pleachref04_PutNum_p.f (k : Nat) (a0 : Int) : Option (ByteArray) := if a0 < 0 then (pleachref04_PutNum_p.j0 k 0) else (pleachref04_PutNum_p.j0 k a0)
theorem pleachref04_PutNum_p.mono_l : ∀ k, (∀ y0, LeO (pleachref04_PutNum_p.j0 k y0) (pleachref04_PutNum_p.j0 (k + 1) y0))
  | 0 => fun _ r h => by simp [pleachref04_PutNum_p.j0] at h
  | k + 1 => by
    have ih0 := pleachref04_PutNum_p.mono_l k
    · intro y0
      unfold pleachref04_PutNum_p.j0
      repeat' first
      | (with_reducible exact ih0 _)
      | (with_reducible exact LeO.refl _)
      | (with_reducible exact LeO.none _)
      | (with_reducible refine LeO.ite ?_ ?_)
      | (with_reducible refine LeO.bind ?_ (fun _ => ?_))
      | exact ih0 _
      | exact LeO.none _
      | refine LeO.ite ?_ ?_
      | refine LeO.bind ?_ (fun _ => ?_)
theorem pleachref04_PutNum_p.mono : ∀ a0 k, LeO (pleachref04_PutNum_p.f k a0) (pleachref04_PutNum_p.f (k + 1) a0) := by
  intro a0 k
  have ih0 := pleachref04_PutNum_p.mono_l k
  unfold pleachref04_PutNum_p.f
  repeat' first
      | (with_reducible exact ih0 _)
      | (with_reducible exact LeO.refl _)
      | (with_reducible exact LeO.none _)
      | (with_reducible refine LeO.ite ?_ ?_)
      | (with_reducible refine LeO.bind ?_ (fun _ => ?_))
      | exact ih0 _
      | exact LeO.none _
      | refine LeO.ite ?_ ?_
      | refine LeO.bind ?_ (fun _ => ?_)
set_option maxHeartbeats 8000000 in
set_option maxRecDepth 100000 in
theorem pleachref04_PutNum_p.calls (k : Nat) (a0 : Int) (r : ByteArray) (w : World) (h : pleachref04_PutNum_p.f k a0 = some r) :
    Calls Tryd.prog 42 #[.int .i64 a0] w fun e w' => e = .returned (.string r) ∧ Below w.heap.size w w' := by
 have HB := Aside0.mk (Below.refl w.heap.size w)
 have H : (if a0 < 0 then (pleachref04_PutNum_p.j0 k 0) else (pleachref04_PutNum_p.j0 k a0)) = some r := h
 clear h
 have HC2 := Aside0.mk H
 clear H
 go_enter Tryd.func42, Tryd.ntmps42
 go_upto_if 4 with (fail)
 go_cut [0] (fun v0 wc => ∃ (kq : Nat) (x0_1 : Int), v0 = .int .i64 x0_1 ∧ Aside0 (pleachref04_PutNum_p.j0 kq x0_1 = some r) ∧ Aside0 (kq ≤ k) ∧ Aside0 (Below w.heap.size w wc))
 case first =>
  have H := HC2.out
  clear HC2
  by_cases c3 : a0 < 0
  ·rw [if_pos c3] at H
   have c3b0 := decide_eq_true c3
   clear c3
   (first | rw [c3b0] | (simp only [i64_w, i32_w]; rw [c3b0]) | skip)
   have H' := Aside0.mk H
   clear H
   go_wp2
   go_meet
   case rel => exact ⟨_, (0), M.eqv, H', ⟨by first | omega | exact Nat.le_refl _⟩, ⟨M.up HB⟩⟩
  ·rw [if_neg c3] at H
   have c3b0 := decide_eq_false c3
   clear c3
   (first | rw [c3b0] | (simp only [i64_w, i32_w]; rw [c3b0]) | skip)
   have H' := Aside0.mk H
   clear H
   go_wp2
   go_meet
   case rel => exact ⟨_, (a0), M.eqv, H', ⟨by first | omega | exact Nat.le_refl _⟩, ⟨M.up HB⟩⟩
 case rest =>
  clear HC2
  (try clear p2); (try clear c3); (try clear c3b0)
  obtain ⟨kq, x0_1, rfl, HA, HJ1, HB⟩ := hcut
  cases kq with
  | zero => exact absurd HA.out (by simp [pleachref04_PutNum_p.j0])
  | succ kj1 =>
   have H := HA.out
   clear HA
   simp only [pleachref04_PutNum_p.j0] at H
   replace H := Option.bind_eq_some_iff.mp H
   obtain ⟨t273, A40, H⟩ := H
   replace H : (some t273) = some r := H
   have A4 := Aside0.mk A40
   clear A40
   obtain rfl := Option.some.inj H
   go_wp2_with (first | ((with_reducible refine gate_callee (f := 60) rfl ?_); refine M.goes (some 7) Tryd.func60 #[.int .u64 (IntKind.u64.wrap (x0_1))] rfl ?_; (with_reducible refine (pleachref01_Put.calls (IntKind.u64.wrap (x0_1)) t273 _ A4.out).mono ?_); rintro e w5 ⟨rfl, hb⟩; refine ⟨_, rfl, ?_⟩; replace HB := M.upS HB hb; (try clear hb)))
   go_ret
   exact M.fin (M.up HB)
def pleachref04_PutNum.f (a0 : Int) : Option ByteArray := if a0 ≤ 9223372036854775807 then some (M.sb (M.vb a0.toNat)) else none
theorem pleachref04_PutNum.ev (a0 : Int) (r : ByteArray) (h : pleachref04_PutNum.f a0 = some r) : ∃ k, pleachref04_PutNum_p.f k a0 = some r := by
 unfold pleachref04_PutNum.f at h
 split at h
 ·rename_i hh
  have key : ∀ n : Nat, n ≤ 9223372036854775807 → pleachref04_PutNum_p.j0 1 (n : Int) = some (M.sb (M.vb n)) := by
   intro n hn
   simp only [pleachref04_PutNum_p.j0, pleachref01_Put.f]
   rw [M.u64_id (by omega) (by omega), if_pos ⟨by omega, by omega⟩, Int.toNat_natCast]; rfl
  refine ⟨1, ?_⟩
  unfold pleachref04_PutNum_p.f
  by_cases h0 : a0 < 0
  ·rw [if_pos h0]
   have := key 0 (by decide)
   rw [show a0.toNat = 0 from by omega] at h
   exact this.trans h
  ·rw [if_neg h0]
   have := key a0.toNat (by omega)
   rw [show ((a0.toNat : Nat) : Int) = a0 from by omega] at this
   exact this.trans h
 ·cases h
theorem pleachref04_PutNum.calls (a0 : Int) (r : ByteArray) (w : World) (h : pleachref04_PutNum.f a0 = some r) :
    Calls Tryd.prog 42 #[.int .i64 a0] w fun e w' => e = .returned (.string r) ∧ Below w.heap.size w w' := by
 obtain ⟨k, hk⟩ := pleachref04_PutNum.ev _ _ h
 exact pleachref04_PutNum_p.calls (k := k) (w := w) (h := hk)
def pleachref04_PutText.f (a0 : ByteArray) : Option ByteArray := if a0.size ≤ 9223372036854775797 then some (M.sb (M.vb a0.size) ++ a0) else none
theorem pleachref04_PutText.go (a0 p : ByteArray) (w : World) (h0 : a0.size ≤ 9223372036854775797) (hp : pleachref01_Put.f (a0.size : Int) = some p) (hs : p.size + a0.size ≤ 9223372036854775807) :
    Calls Tryd.prog 43 #[.string a0] w fun e w' => e = .returned (.string (p ++ a0)) ∧ Below w.heap.size w w' := by
 have HP := Aside0.mk hp
 clear hp
 have c3b0 := eq_true hs
 have c3b1 : decide (p.size + a0.size ≤ 9223372036854775807) = true := decide_eq_true hs
 have c3b2 : (9223372036854775807 < p.size + a0.size) = False := eq_false (Nat.not_lt.2 hs)
 go_enter Tryd.func43, Tryd.ntmps43
 go_wp2_with (go_at_call 60; refine (pleachref01_Put.calls (a0.size : Int) p _ HP.out).mono ?_; rintro e w1 ⟨rfl, hb⟩)
 go_ret
 exact ⟨rfl, hb⟩
theorem pleachref04_PutText.calls (a0 : ByteArray) (r : ByteArray) (w : World) (h : pleachref04_PutText.f a0 = some r) :
    Calls Tryd.prog 43 #[.string a0] w fun e w' => e = .returned (.string r) ∧ Below w.heap.size w w' := by
 unfold pleachref04_PutText.f at h
 split at h
 ·rename_i hh
  obtain rfl := Option.some.inj h
  have hl := M.vb_le a0.size (by omega)
  refine pleachref04_PutText.go a0 _ w hh ?_ (by rw [M.size_sb]; omega)
  unfold pleachref01_Put.f
  rw [if_pos ⟨by omega, by omega⟩, Int.toNat_natCast]
 ·cases h
def pleachref35_Put_p.l0 : Nat → ByteArray → List ByteArray → Int → Int → Int → List ByteArray → ByteArray → ByteArray → Option (ByteArray)
  | 0, _, _, _, _, _, _, _, _ => none
  | k + 1, x3, x19, x20, x21, zab, zac, zad, zae => if x21 < x20 then (if 0 ≤ x21 then (if x21 < (x19.length : Int) then (if x3.size + (rdOf ByteArray.empty x19 x21).size ≤ 9223372036854775807 then (pleachref35_Put_p.l0 k (x3 ++ (rdOf ByteArray.empty x19 x21)) x19 x20 (wrap64 (x21 + 1)) zab zac zad zae) else (none)) else (none)) else (none)) else (if x3.size + zad.size ≤ 9223372036854775807 then ((pleachref04_PutText.f zae).bind fun t279 => (if (x3 ++ zad).size + t279.size ≤ 9223372036854775807 then (some ((x3 ++ zad) ++ t279)) else (none))) else (none))
def pleachref35_Put_p.f (k : Nat) (a0_0 : Int) (l0_1 : List ByteArray) (a0_2 : ByteArray) (a0_3 : ByteArray) : Option (ByteArray) := (pleachref35_Is.f a0_0 l0_1 a0_2 a0_3).bind fun t275 => (if t275 = true then ((pleachref04_PutNum.f a0_0).bind fun t276 => (if 1 + t276.size ≤ 9223372036854775807 then ((pleachref04_PutNum.f (l0_1.length : Int)).bind fun t277 => (if ((⟨#[67]⟩ : ByteArray) ++ t276).size + t277.size ≤ 9223372036854775807 then (pleachref35_Put_p.l0 k (((⟨#[67]⟩ : ByteArray) ++ t276) ++ t277) l0_1 (l0_1.length : Int) 0 a0_0 l0_1 a0_2 a0_3) else (none))) else (none))) else (some (⟨#[]⟩ : ByteArray)))
theorem pleachref35_Put_p.mono_l : ∀ k, (∀ y0 y1 y2 y3 y4 y5 y6 y7, LeO (pleachref35_Put_p.l0 k y0 y1 y2 y3 y4 y5 y6 y7) (pleachref35_Put_p.l0 (k + 1) y0 y1 y2 y3 y4 y5 y6 y7))
  | 0 => fun _ _ _ _ _ _ _ _ r h => by simp [pleachref35_Put_p.l0] at h
  | k + 1 => by
    have ih0 := pleachref35_Put_p.mono_l k
    · intro y0 y1 y2 y3 y4 y5 y6 y7
      unfold pleachref35_Put_p.l0
      repeat' first
      | (with_reducible exact ih0 _ _ _ _ _ _ _ _)
      | (with_reducible exact LeO.refl _)
      | (with_reducible exact LeO.none _)
      | (with_reducible refine LeO.ite ?_ ?_)
      | (with_reducible refine LeO.bind ?_ (fun _ => ?_))
      | exact ih0 _ _ _ _ _ _ _ _
      | exact LeO.none _
      | refine LeO.ite ?_ ?_
      | refine LeO.bind ?_ (fun _ => ?_)
theorem pleachref35_Put_p.mono : ∀ a0 a1 a2 a3 k, LeO (pleachref35_Put_p.f k a0 a1 a2 a3) (pleachref35_Put_p.f (k + 1) a0 a1 a2 a3) := by
  intro a0 a1 a2 a3 k
  have ih0 := pleachref35_Put_p.mono_l k
  unfold pleachref35_Put_p.f
  repeat' first
      | (with_reducible exact ih0 _ _ _ _ _ _ _ _)
      | (with_reducible exact LeO.refl _)
      | (with_reducible exact LeO.none _)
      | (with_reducible refine LeO.ite ?_ ?_)
      | (with_reducible refine LeO.bind ?_ (fun _ => ?_))
      | exact ih0 _ _ _ _ _ _ _ _
      | exact LeO.none _
      | refine LeO.ite ?_ ?_
      | refine LeO.bind ?_ (fun _ => ?_)
def pleachref35_Put_p.T3 : Bool × List (List Nat × List Nat) := (true, [([], []), ([0], [0]), ([1], [1]), ([2], [2]), ([], []), ([4], [4]), ([5], [5]), ([6, 2], [6]), ([3, 7], [3, 7]), ([8, 7, 0, 1, 2, 3, 4, 5, 6, 7, 8], [8])])
def pleachref35_Put_p.B3 : List Nat := [0, 1, 3, 7, 0, 16, 48, 119, 255, 511]
theorem pleachref35_Put_p.tab3 : rtab .any (opsOf Tryd.f17 3) = pleachref35_Put_p.T3 := by kernel_rfl
theorem pleachref35_Put_p.bits3 : waitsOk pleachref35_Put_p.T3.2 pleachref35_Put_p.B3 = true := by kernel_rfl
def pleachref35_Put_p.T9 : Bool × List (List Nat × List Nat) := (true, [([], []), ([], []), ([1], [1]), ([0, 2], [0, 2]), ([], []), ([4], [4]), ([5], [5]), ([3, 6], [3, 6]), ([7, 6, 0, 1, 2, 3, 4, 5, 6, 7], [7])])
def pleachref35_Put_p.B9 : List Nat := [0, 0, 2, 7, 0, 16, 48, 127, 255]
theorem pleachref35_Put_p.tab9 : rtab .any (opsOf Tryd.f17 9) = pleachref35_Put_p.T9 := by kernel_rfl
theorem pleachref35_Put_p.bits9 : waitsOk pleachref35_Put_p.T9.2 pleachref35_Put_p.B9 = true := by kernel_rfl
set_option maxHeartbeats 8000000 in
set_option maxRecDepth 100000 in
theorem pleachref35_Put_p.calls (k : Nat) (a0_0 : Int) (A0_1 : Option Addr) (c0_1 : Nat) (l0_1 : List ByteArray) (a0_2 : ByteArray) (a0_3 : ByteArray) (r : ByteArray) (w : World) (hr0_1 : Kd.C Kd.string w A0_1 l0_1.length l0_1) (hc0_1 : l0_1.length ≤ c0_1) (h : pleachref35_Put_p.f k a0_0 l0_1 a0_2 a0_3 = some r) :
    Calls Tryd.prog 17 #[.agg #[.int .i64 a0_0, .slice A0_1 l0_1.length c0_1, .string a0_2, .string a0_3]] w fun e w' => e = .returned (.string r) ∧ Below w.heap.size w w' := by
 have hu24 := Tryd.underlying24
 have HR0_1 := Aside0.mk hr0_1
 have HC0_1 := Aside0.mk hc0_1
 clear hr0_1 hc0_1
 have HB := Aside0.mk (Below.refl w.heap.size w)
 have H : ((pleachref35_Is.f a0_0 l0_1 a0_2 a0_3).bind fun t275 => (if t275 = true then ((pleachref04_PutNum.f a0_0).bind fun t276 => (if 1 + t276.size ≤ 9223372036854775807 then ((pleachref04_PutNum.f (l0_1.length : Int)).bind fun t277 => (if ((⟨#[67]⟩ : ByteArray) ++ t276).size + t277.size ≤ 9223372036854775807 then (pleachref35_Put_p.l0 k (((⟨#[67]⟩ : ByteArray) ++ t276) ++ t277) l0_1 (l0_1.length : Int) 0 a0_0 l0_1 a0_2 a0_3) else (none))) else (none))) else (some (⟨#[]⟩ : ByteArray)))) = some r := h
 clear h
 replace H := Option.bind_eq_some_iff.mp H
 obtain ⟨t275, A20, H⟩ := H
 replace H : (if t275 = true then ((pleachref04_PutNum.f a0_0).bind fun t276 => (if 1 + t276.size ≤ 9223372036854775807 then ((pleachref04_PutNum.f (l0_1.length : Int)).bind fun t277 => (if ((⟨#[67]⟩ : ByteArray) ++ t276).size + t277.size ≤ 9223372036854775807 then (pleachref35_Put_p.l0 k (((⟨#[67]⟩ : ByteArray) ++ t276) ++ t277) l0_1 (l0_1.length : Int) 0 a0_0 l0_1 a0_2 a0_3) else (none))) else (none))) else (some (⟨#[]⟩ : ByteArray))) = some r := H
 have A2 := Aside0.mk A20
 clear A20
 by_cases c3 : t275 = true
 ·subst c3
  have H1 : ((pleachref04_PutNum.f a0_0).bind fun t276 => (if 1 + t276.size ≤ 9223372036854775807 then ((pleachref04_PutNum.f (l0_1.length : Int)).bind fun t277 => (if ((⟨#[67]⟩ : ByteArray) ++ t276).size + t277.size ≤ 9223372036854775807 then (pleachref35_Put_p.l0 k (((⟨#[67]⟩ : ByteArray) ++ t276) ++ t277) l0_1 (l0_1.length : Int) 0 a0_0 l0_1 a0_2 a0_3) else (none))) else (none))) = some r := by rw [if_pos rfl] at H; exact H
  clear H
  have H := H1
  clear H1
  replace H := Option.bind_eq_some_iff.mp H
  obtain ⟨t276, A40, H⟩ := H
  replace H : (if 1 + t276.size ≤ 9223372036854775807 then ((pleachref04_PutNum.f (l0_1.length : Int)).bind fun t277 => (if ((⟨#[67]⟩ : ByteArray) ++ t276).size + t277.size ≤ 9223372036854775807 then (pleachref35_Put_p.l0 k (((⟨#[67]⟩ : ByteArray) ++ t276) ++ t277) l0_1 (l0_1.length : Int) 0 a0_0 l0_1 a0_2 a0_3) else (none))) else (none)) = some r := H
  have A4 := Aside0.mk A40
  clear A40
  by_cases c5 : 1 + t276.size ≤ 9223372036854775807
  ·rw [if_pos c5] at H
   have c5b0 := eq_true c5
   have c5b1 := decide_eq_true c5
   try have c5b2 : (9223372036854775807 < 1 + t276.size) = False := eq_false (Nat.not_lt.2 c5)
   replace H := Option.bind_eq_some_iff.mp H
   obtain ⟨t277, A60, H⟩ := H
   replace H : (if ((⟨#[67]⟩ : ByteArray) ++ t276).size + t277.size ≤ 9223372036854775807 then (pleachref35_Put_p.l0 k (((⟨#[67]⟩ : ByteArray) ++ t276) ++ t277) l0_1 (l0_1.length : Int) 0 a0_0 l0_1 a0_2 a0_3) else (none)) = some r := H
   have A6 := Aside0.mk A60
   clear A60
   by_cases c7 : ((⟨#[67]⟩ : ByteArray) ++ t276).size + t277.size ≤ 9223372036854775807
   ·rw [if_pos c7] at H
    have c7b0 := eq_true c7
    have c7b1 := decide_eq_true c7
    try have c7b2 : (9223372036854775807 < ((⟨#[67]⟩ : ByteArray) ++ t276).size + t277.size) = False := eq_false (Nat.not_lt.2 c7)
    have c7m := c7
    (try simp only [ByteArray.size_append, show (⟨#[67]⟩ : ByteArray).size = 1 from rfl] at c7m)
    have c7b3 := eq_true c7m
    have c7b4 := eq_false (Nat.not_lt.2 c7m)
    have c7b5 := decide_eq_true c7m
    have H' := Aside0.mk H
    clear H
    go_enter Tryd.func17, Tryd.ntmps17
    try go_wp2_with (first | ((with_reducible refine gate_dst (N := 1) rfl ?_); refine M.bx 1 24 (#[.int .i64 a0_0, .slice A0_1 l0_1.length c0_1, .string a0_2, .string a0_3]) ?_; intro zaf hg w8 hbox hb; have zag := Aside0.mk (hbox); have zah := M.upG HB hg; have zai := M.upG HB hg; replace HB := M.upS HB hb; clear hb hbox hg; have zaj : w8.cell? ⟨zaf, 0, none⟩ = some (.int .i64 a0_0) := (blk_cell zag.out 0).trans rfl; have zak : w8.cell? ⟨zaf, 1, none⟩ = some (.slice A0_1 l0_1.length c0_1) := (blk_cell zag.out 1).trans rfl; have zal : w8.cell? ⟨zaf, 2, none⟩ = some (.string a0_2) := (blk_cell zag.out 2).trans rfl; have zam : w8.cell? ⟨zaf, 3, none⟩ = some (.string a0_3) := (blk_cell zag.out 3).trans rfl; have zan := blk_frozen zag.out 0; have zao := blk_frozen zag.out 1; have zap := blk_frozen zag.out 2; have zaq := blk_frozen zag.out 3) | ((with_reducible refine gate_callee (f := 14) rfl ?_); refine M.goes (some 7) Tryd.func14 #[.agg #[.int .i64 a0_0, .slice A0_1 l0_1.length c0_1, .string a0_2, .string a0_3]] rfl ?_; (with_reducible refine (pleachref35_Is.calls a0_0 _ _ l0_1 a0_2 a0_3 true _ ?side1 ?side2 A2.out).mono ?_); (case side1 => exact M.cB HR0_1 HB); (case side2 => exact HC0_1.out); rintro e w10 ⟨rfl, hb⟩; refine ⟨_, rfl, ?_⟩; replace zag := M.bkB zag hb; replace HB := M.upS HB hb; (try clear hb)))
    replace zag := Aside0.mk (blk_drew zag.out); replace HB := Aside0.mk (below_drew1 HB.out)
    refine start_ (n := 10) (S := fun w' => w'.cell? ⟨zaf, 0, none⟩ = some (.int .i64 a0_0) ∧ w'.cell? ⟨zaf, 1, none⟩ = some (.slice A0_1 l0_1.length c0_1) ∧ w'.cell? ⟨zaf, 2, none⟩ = some (.string a0_2) ∧ w'.cell? ⟨zaf, 3, none⟩ = some (.string a0_3)) (ds := []) #[false, false, false, false, false, false, false, false, false, false] (by kernel_rfl) rfl rfl ⟨(blk_cell zag.out 0).trans rfl, (blk_cell zag.out 1).trans rfl, (blk_cell zag.out 2).trans rfl, (blk_cell zag.out 3).trans rfl⟩ (fun hHeld => ?_); refine with_tabW pleachref35_Put_p.tab3 pleachref35_Put_p.bits3 (fun HT_ HW_ => ?_)
    generalize w10.drew = w11 at zag HB hHeld ⊢
    refine M.pu 0 9 [1, 9] HT_ ?_
    refine M.pu 4 13 [1, 3, 1, 5] HT_ ?_
    refine M.tk 1 10 [2, 2, 1, 5] HT_ HW_ hHeld ?_
    refine M.tk 5 14 [2, 2, 2, 4] HT_ HW_ hHeld ?_
    refine M.pu 6 15 [2, 2, 3, 3] HT_ ?_
    refine one_ (i := 2) (N := some 11) #[true, true, true, false, true, true, true, false, false, false] rfl rfl (one_of HT_.out (by kernel_rfl)) (by decide) (fun K hK => ?_)
    refine goes_ Tryd.func42 (by kernel_rfl) rfl #[.int .i64 a0_0] (by rfl) rfl rfl (by (try simp only [List.map_toArray, List.map_cons, List.map_nil]); first | done | rfl | (simp only [List.length_drop, List.length_take]; rfl)) ?_
    with_reducible refine (pleachref04_PutNum.calls a0_0 t276 _ A4.out).mono ?_
    rintro e w12 ⟨rfl, hb⟩
    refine ⟨_, rfl, ?_⟩
    replace zag := M.bkB zag hb; replace HB := M.upS HB hb
    (try clear hb)
    (try clear hb2)
    (try clear hk)
    (try clear hi)
    refine hK.out _ _ ⟨(blk_cell zag.out 0).trans rfl, (blk_cell zag.out 1).trans rfl, (blk_cell zag.out 2).trans rfl, (blk_cell zag.out 3).trans rfl⟩ (fun hHeld => ?_)
    clear hK K
    refine norm_ (a' := ?_) ?_ ?_
    rotate_left
    ·show Act.put _ (some 11) _ = _
     simp only [Act.put, List.setIfInBounds_toArray, List.set_cons_zero, List.set_cons_succ, i64_w, i32_w]
     rfl
    refine M.pu 3 12 [7, 3] HT_ ?_
    refine one_ (i := 7) (N := some 16) #[true, true, true, true, true, true, true, true, false, false] rfl rfl (one_of HT_.out (by kernel_rfl)) (by decide) (fun K hK => ?_)
    refine goes_ Tryd.func42 (by kernel_rfl) rfl #[.int .i64 (l0_1.length : Int)] (by rfl) rfl rfl (by (try simp only [List.map_toArray, List.map_cons, List.map_nil]); first | done | rfl | (simp only [List.length_drop, List.length_take]; rfl)) ?_
    with_reducible refine (pleachref04_PutNum.calls (l0_1.length : Int) t277 _ A6.out).mono ?_
    rintro e w13 ⟨rfl, hb⟩
    refine ⟨_, rfl, ?_⟩
    replace zag := M.bkB zag hb; replace HB := M.upS HB hb
    (try clear hb)
    (try clear hb2)
    (try clear hk)
    (try clear hi)
    refine hK.out _ _ ⟨(blk_cell zag.out 0).trans rfl, (blk_cell zag.out 1).trans rfl, (blk_cell zag.out 2).trans rfl, (blk_cell zag.out 3).trans rfl⟩ (fun hHeld => ?_)
    clear hK K
    refine norm_ (a' := ?_) ?_ ?_
    rotate_left
    ·show Act.put _ (some 16) _ = _
     simp only [Act.put, List.setIfInBounds_toArray, List.set_cons_zero, List.set_cons_succ, i64_w, i32_w]
     rfl
    refine M.pu 8 17 [9, 1] HT_ ?_
    refine M.pu 9 3 [10] HT_ ?_
    refine done_ (done_of HT_.out (by kernel_rfl)) ?_
    have zar : w13.cell? ⟨zaf, 0, none⟩ = some (.int .i64 a0_0) := (blk_cell zag.out 0).trans rfl
    have zas : w13.cell? ⟨zaf, 1, none⟩ = some (.slice A0_1 l0_1.length c0_1) := (blk_cell zag.out 1).trans rfl
    have zat : w13.cell? ⟨zaf, 2, none⟩ = some (.string a0_2) := (blk_cell zag.out 2).trans rfl
    have zau : w13.cell? ⟨zaf, 3, none⟩ = some (.string a0_3) := (blk_cell zag.out 3).trans rfl
    have zav := blk_frozen zag.out 0
    have zaw := blk_frozen zag.out 1
    have zax := blk_frozen zag.out 2
    have zay := blk_frozen zag.out 3
    try go_wp2
    go_loopg [3, 21] k (fun kq v3 v21 w' => ∃ (x3_1 : ByteArray) (x21_1 : Int), v3 = .string x3_1 ∧ v21 = .int .i64 x21_1 ∧ Aside0 (pleachref35_Put_p.l0 kq x3_1 l0_1 (l0_1.length : Int) x21_1 a0_0 l0_1 a0_2 a0_3 = some r) ∧ Aside0 (kq ≤ k) ∧ Aside0 (w'.heap[zaf]? = some (.cells #[.int .i64 a0_0, (.slice A0_1 l0_1.length c0_1), .string a0_2, .string a0_3] 24 (0, 0))) ∧ Aside0 (Below w.heap.size w w'))
    case atStart => exact ⟨(((⟨#[67]⟩ : ByteArray) ++ t276) ++ t277), (0), M.eqv, M.eqv, H', ⟨Nat.le_refl _⟩, ⟨M.bk zag⟩, ⟨M.up HB⟩⟩
    case round =>
     clear H'
     (try clear c1); (try clear p2); (try clear c3); (try clear c4); (try clear c5); (try clear c5b0); (try clear c5b1); (try clear c5b2); (try clear c7); (try clear c7b0); (try clear c7b1); (try clear c7b2); (try clear c14); (try clear zar); (try clear zas); (try clear zat); (try clear zau); (try clear zaj); (try clear zak); (try clear zal); (try clear zam); (try clear zav); (try clear zaw); (try clear zax); (try clear zay); (try clear zan); (try clear zao); (try clear zap); (try clear zaq)
     obtain ⟨x3_1, x21_1, rfl, rfl, HA, HK1, zag, HB⟩ := hrel
     cases gk with
     | zero => exact absurd HA.out (by simp [pleachref35_Put_p.l0])
     | succ k1 =>
      have H := HA.out
      clear HA
      simp only [pleachref35_Put_p.l0] at H
      by_cases c15 : x21_1 < (l0_1.length : Int)
      ·rw [if_pos c15] at H
       have c15b0 := decide_eq_true c15
       clear c15
       by_cases c16 : 0 ≤ x21_1
       ·rw [if_pos c16] at H
        have c16b0 := decide_eq_true c16
        clear c16
        by_cases c17 : x21_1 < (l0_1.length : Int)
        ·rw [if_pos c17] at H
         have c17b0 := decide_eq_true c17
         clear c17
         by_cases c18 : x3_1.size + (rdOf ByteArray.empty l0_1 x21_1).size ≤ 9223372036854775807
         ·rw [if_pos c18] at H
          have c18b0 := eq_true c18
          have c18b1 := decide_eq_true c18
          try have c18b2 : (9223372036854775807 < x3_1.size + (rdOf ByteArray.empty l0_1 x21_1).size) = False := eq_false (Nat.not_lt.2 c18)
          have H' := Aside0.mk H
          clear H
          have p278 : 0 ≤ (x21_1 : Int) := M.dt
          have q278 : x21_1 < (l0_1.length : Int) := M.dt
          obtain ⟨ad278, e278, hx278_0⟩ := Kd.at_string HR0_1.out x21_1 p278 q278
          cases e278
          replace hx278_0 := M.hc HB hx278_0
          replace p278 := eq_true p278
          replace q278 := eq_true q278
          go_wp2
          go_roundg k1
          case measure => have := HK1.out; omega
          case rel => exact ⟨(x3_1 ++ (rdOf ByteArray.empty l0_1 x21_1)), (wrap64 (x21_1 + 1)), M.eqv, M.eqv, H', ⟨by have := HK1.out; omega⟩, ⟨M.bk zag⟩, ⟨M.up HB⟩⟩
         ·exact M.nf c18 H
        ·exact M.nf c17 H
       ·exact M.nf c16 H
      ·rw [if_neg c15] at H
       have c15b0 := decide_eq_false c15
       clear c15
       by_cases c19 : x3_1.size + a0_2.size ≤ 9223372036854775807
       ·rw [if_pos c19] at H
        have c19b0 := eq_true c19
        have c19b1 := decide_eq_true c19
        try have c19b2 : (9223372036854775807 < x3_1.size + a0_2.size) = False := eq_false (Nat.not_lt.2 c19)
        replace H := Option.bind_eq_some_iff.mp H
        obtain ⟨t279, A200, H⟩ := H
        replace H : (if (x3_1 ++ a0_2).size + t279.size ≤ 9223372036854775807 then (some ((x3_1 ++ a0_2) ++ t279)) else (none)) = some r := H
        have A20 := Aside0.mk A200
        clear A200
        by_cases c21 : (x3_1 ++ a0_2).size + t279.size ≤ 9223372036854775807
        ·rw [if_pos c21] at H
         have c21b0 := eq_true c21
         have c21b1 := decide_eq_true c21
         try have c21b2 : (9223372036854775807 < (x3_1 ++ a0_2).size + t279.size) = False := eq_false (Nat.not_lt.2 c21)
         have c21m := c21
         (try simp only [ByteArray.size_append] at c21m)
         have c21b3 := eq_true c21m
         have c21b4 := eq_false (Nat.not_lt.2 c21m)
         have c21b5 := decide_eq_true c21m
         obtain rfl := Option.some.inj H
         try go_wp2
         replace zag := Aside0.mk (blk_drew zag.out); replace HB := Aside0.mk (below_drew1 HB.out)
         refine start_ (n := 9) (S := fun w' => w'.cell? ⟨zaf, 0, none⟩ = some (.int .i64 a0_0) ∧ w'.cell? ⟨zaf, 1, none⟩ = some (.slice A0_1 l0_1.length c0_1) ∧ w'.cell? ⟨zaf, 2, none⟩ = some (.string a0_2) ∧ w'.cell? ⟨zaf, 3, none⟩ = some (.string a0_3)) (ds := []) #[false, false, false, false, false, false, false, false, false] (by kernel_rfl) rfl rfl ⟨(blk_cell zag.out 0).trans rfl, (blk_cell zag.out 1).trans rfl, (blk_cell zag.out 2).trans rfl, (blk_cell zag.out 3).trans rfl⟩ (fun hHeld => ?_); refine with_tabW pleachref35_Put_p.tab9 pleachref35_Put_p.bits9 (fun HT_ HW_ => ?_)
         generalize wr.drew = w22 at zag HB hHeld ⊢
         refine M.pu 0 29 [1, 8] HT_ ?_
         refine M.pu 1 30 [2, 7] HT_ ?_
         refine M.pu 4 33 [2, 2, 1, 4] HT_ ?_
         refine M.tk 2 31 [3, 1, 1, 4] HT_ HW_ hHeld ?_
         refine M.pu 3 32 [5, 4] HT_ ?_
         refine M.tk 5 34 [6, 3] HT_ HW_ hHeld ?_
         refine one_ (i := 6) (N := some 35) #[true, true, true, true, true, true, true, false, false] rfl rfl (one_of HT_.out (by kernel_rfl)) (by decide) (fun K hK => ?_)
         refine goes_ Tryd.func43 (by kernel_rfl) rfl #[.string a0_3] (by rfl) rfl rfl (by (try simp only [List.map_toArray, List.map_cons, List.map_nil]); first | done | rfl | (simp only [List.length_drop, List.length_take]; rfl)) ?_
         with_reducible refine (pleachref04_PutText.calls a0_3 t279 _ A20.out).mono ?_
         rintro e w23 ⟨rfl, hb⟩
         refine ⟨_, rfl, ?_⟩
         replace zag := M.bkB zag hb; replace HB := M.upS HB hb
         (try clear hb)
         (try clear hb2)
         (try clear hk)
         (try clear hi)
         refine hK.out _ _ ⟨(blk_cell zag.out 0).trans rfl, (blk_cell zag.out 1).trans rfl, (blk_cell zag.out 2).trans rfl, (blk_cell zag.out 3).trans rfl⟩ (fun hHeld => ?_)
         clear hK K
         refine norm_ (a' := ?_) ?_ ?_
         rotate_left
         ·show Act.put _ (some 35) _ = _
          simp only [Act.put, List.setIfInBounds_toArray, List.set_cons_zero, List.set_cons_succ, i64_w, i32_w]
          rfl
         refine M.pu 7 36 [8, 1] HT_ ?_
         refine M.pu 8 2 [9] HT_ ?_
         refine done_ (done_of HT_.out (by kernel_rfl)) ?_
         try go_wp2
         go_ret
         exact M.fin (M.up HB)
        ·exact M.nf c21 H
       ·exact M.nf c19 H
   ·exact M.nf c7 H
  ·exact M.nf c5 H
 ·replace c3 := Bool.eq_false_iff.mpr c3
  subst c3
  have H1 : (some (⟨#[]⟩ : ByteArray)) = some r := by rw [if_neg (show ¬ (false = true) by decide)] at H; exact H
  clear H
  have H := H1
  clear H1
  obtain rfl := Option.some.inj H
  go_enter Tryd.func17, Tryd.ntmps17
  go_wp2_with (first | ((with_reducible refine gate_dst (N := 1) rfl ?_); refine M.bx 1 24 (#[.int .i64 a0_0, .slice A0_1 l0_1.length c0_1, .string a0_2, .string a0_3]) ?_; intro zaf hg w24 hbox hb; have zag := Aside0.mk (hbox); have zah := M.upG HB hg; have zai := M.upG HB hg; replace HB := M.upS HB hb; clear hb hbox hg; have zaz : w24.cell? ⟨zaf, 0, none⟩ = some (.int .i64 a0_0) := (blk_cell zag.out 0).trans rfl; have zaA : w24.cell? ⟨zaf, 1, none⟩ = some (.slice A0_1 l0_1.length c0_1) := (blk_cell zag.out 1).trans rfl; have zaB : w24.cell? ⟨zaf, 2, none⟩ = some (.string a0_2) := (blk_cell zag.out 2).trans rfl; have zaC : w24.cell? ⟨zaf, 3, none⟩ = some (.string a0_3) := (blk_cell zag.out 3).trans rfl; have zaD := blk_frozen zag.out 0; have zaE := blk_frozen zag.out 1; have zaF := blk_frozen zag.out 2; have zaG := blk_frozen zag.out 3) | ((with_reducible refine gate_callee (f := 14) rfl ?_); refine M.goes (some 7) Tryd.func14 #[.agg #[.int .i64 a0_0, .slice A0_1 l0_1.length c0_1, .string a0_2, .string a0_3]] rfl ?_; (with_reducible refine (pleachref35_Is.calls a0_0 _ _ l0_1 a0_2 a0_3 false _ ?side1 ?side2 A2.out).mono ?_); (case side1 => exact M.cB HR0_1 HB); (case side2 => exact HC0_1.out); rintro e w26 ⟨rfl, hb⟩; refine ⟨_, rfl, ?_⟩; replace zag := M.bkB zag hb; replace HB := M.upS HB hb; (try clear hb)))
  go_ret
  exact M.fin (M.up HB)
def pleachref35_Put.f (a0_0 : Int) (l0_1 : List ByteArray) (a0_2 : ByteArray) (a0_3 : ByteArray) : Option ByteArray := some (if M.isC a0_0 l0_1 a0_2 a0_3 then M.sb (M.cput a0_0 l0_1 a0_2 a0_3) else ⟨#[]⟩)
theorem pleachref35_Put.loop (n : Int) (ps : List ByteArray) (g note : ByteArray) (hl : ps.length ≤ 2) (hp : ∀ p ∈ ps, p.size = 32) (hg : g.size = 32) (hn : note.size ≤ 40) (d : Nat) : ∀ (i : Nat) (out : ByteArray), i + d = ps.length → out.size ≤ 100 + 32 * i →
    pleachref35_Put_p.l0 (d + 1) out ps (ps.length : Int) (i : Int) n ps g note = some (out ++ M.sb ((ps.drop i).flatMap M.bs ++ (M.bs g ++ (M.vb note.size ++ M.bs note)))) := by
 have hv := M.vb_le note.size (by omega)
 have hv2 : (M.sb (M.vb note.size)).size ≤ 10 := by rw [M.size_sb]; exact hv
 have ht : pleachref04_PutText.f note = some (M.sb (M.vb note.size) ++ note) := if_pos (by omega)
 induction d with
 | zero =>
  intro i out hi ho
  rw [pleachref35_Put_p.l0, if_neg (by omega), if_pos (by omega), ht, Option.bind_some, if_pos (by simp only [M.size_append]; omega), List.drop_of_length_le (by omega)]
  congr 1
  apply M.bs_inj
  simp only [M.bs_append, M.bs_sb, List.flatMap_nil, List.nil_append, List.append_assoc]
 | succ d ih =>
  intro i out hi ho
  have h1 : i < ps.length := by omega
  have r1 : rdOf ByteArray.empty ps (i : Int) = ps[i] := by simp [rdOf, List.getD, h1]
  have hz := hp ps[i] (List.getElem_mem h1)
  have hsz : (out ++ ps[i]).size ≤ 100 + 32 * (i + 1) := by rw [M.size_append, hz]; omega
  rw [pleachref35_Put_p.l0, if_pos (by omega), if_pos (by omega), if_pos (by omega), r1, if_pos (by omega), M.wrap64_id (by omega) (by omega), show (i : Int) + 1 = ((i + 1 : Nat) : Int) from by omega, ih (i + 1) _ (by omega) hsz, List.drop_eq_getElem_cons h1]
  congr 1
  apply M.bs_inj
  simp only [M.bs_append, M.bs_sb, List.flatMap_cons, List.append_assoc]
theorem pleachref35_Put.ev (n : Int) (ps : List ByteArray) (g note : ByteArray) (r : ByteArray) (h : pleachref35_Put.f n ps g note = some r) : ∃ k, pleachref35_Put_p.f k n ps g note = some r := by
 unfold pleachref35_Put.f at h
 obtain rfl := Option.some.inj h
 refine ⟨ps.length + 1, ?_⟩
 unfold pleachref35_Put_p.f pleachref35_Is.f
 rw [Option.bind_some]
 by_cases hc : M.isC n ps g note
 ·obtain ⟨⟨hn0, hn1⟩, hp2, hg, hnote, hps, _⟩ := id hc
  have hv := M.vb_le n.toNat (by omega)
  have hv2 := M.vb_le ps.length (by omega)
  have e1 : pleachref04_PutNum.f n = some (M.sb (M.vb n.toNat)) := if_pos (by omega)
  have e2 : pleachref04_PutNum.f (ps.length : Int) = some (M.sb (M.vb ps.length)) := by
   have : pleachref04_PutNum.f (ps.length : Int) = some (M.sb (M.vb (ps.length : Int).toNat)) := if_pos (by omega)
   rw [this, Int.toNat_natCast]
  have e3 : (⟨#[67]⟩ : ByteArray) = M.sb [67] := rfl
  rw [if_pos (decide_eq_true hc), e1, Option.bind_some, e3, if_pos (by rw [M.size_sb]; omega), e2, Option.bind_some, if_pos (by rw [M.size_append, M.size_sb, M.size_sb, M.size_sb]; simp only [List.length_cons, List.length_nil]; omega)]
  have := pleachref35_Put.loop n ps g note hp2 hps hg hnote ps.length 0 (M.sb [67] ++ M.sb (M.vb n.toNat) ++ M.sb (M.vb ps.length)) (by omega) (by rw [M.size_append, M.size_append, M.size_sb, M.size_sb, M.size_sb]; simp only [List.length_cons, List.length_nil]; omega)
  rw [show ((0 : Nat) : Int) = 0 from rfl] at this
  rw [this, if_pos hc]
  congr 1
  apply M.bs_inj
  simp only [M.bs_append, M.bs_sb, M.cput, List.drop_zero, List.append_assoc]
 ·rw [if_neg (by simp [hc]), if_neg hc]
theorem pleachref35_Put.calls (a0_0 : Int) (A0_1 : Option Addr) (c0_1 : Nat) (l0_1 : List ByteArray) (a0_2 : ByteArray) (a0_3 : ByteArray) (r : ByteArray) (w : World) (hr0_1 : Kd.C Kd.string w A0_1 l0_1.length l0_1) (hc0_1 : l0_1.length ≤ c0_1) (h : pleachref35_Put.f a0_0 l0_1 a0_2 a0_3 = some r) :
    Calls Tryd.prog 17 #[.agg #[.int .i64 a0_0, .slice A0_1 l0_1.length c0_1, .string a0_2, .string a0_3]] w fun e w' => e = .returned (.string r) ∧ Below w.heap.size w w' := by
 obtain ⟨k, hk⟩ := pleachref35_Put.ev _ _ _ _ _ h
 exact pleachref35_Put_p.calls (k := k) (w := w) (h := hk) (hr0_1 := hr0_1) (hc0_1 := hc0_1)
end Go.Proofs.YtikdbklmhjlfoaaDoor.ECommitKnots
