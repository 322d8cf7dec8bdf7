-- Laid by this session's own program (wip/tools/fold.py): this session's texts, cut to what the claim names and put together; Lean checks it.
import Derived.Test.YtkjbhgolillidaaDoorVMarkNames1
import Derived.Test.YtkjbhgolillidaaDoorXMarkNames1
namespace Go.Proofs.YtkjbhgolillidaaDoor.EMarkNames
open Go.RowKit Go.Proofs.YtkjbhgolillidaaDoorW.PrintWords Go.Proofs.YtkjbhgolillidaaDoorW.PrintLast Go.Proofs.YtkjbhgolillidaaDoorW.PrintMore
attribute [local go_sem] M.run_leq M.run_gtr M.run_geq max2_int min2_int max_two min_two max_three min_three max_four min_four
set_option linter.unusedVariables false
set_option linter.unusedSimpArgs false
mutual
def commit_Check_p.j0 : Nat → Bool → Int → List ByteArray → ByteArray → ByteArray → Option (Int)
  | 0, _, _, _, _, _ => none
  | k + 1, x5, zaa, zab, zac, zad => if x5 = true then (some 2) else (if (zac.size : Int) = 32 then (if (zad.size : Int) > 40 then (some 2) else (commit_Check_p.l0 k zab (zab.length : Int) 0 zaa zab zac zad)) else (some 2))
def commit_Check_p.l0 : Nat → List ByteArray → Int → Int → Int → List ByteArray → ByteArray → ByteArray → Option (Int)
  | 0, _, _, _, _, _, _, _ => none
  | k + 1, x32, x33, x34, zaa, zab, zac, zad => if x34 < x33 then (if 0 ≤ x34 then (if x34 < (x32.length : Int) then (if ((rdOf ByteArray.empty x32 x34).size : Int) = 32 then (if x34 > 0 then (if 0 < (zab.length : Int) then (commit_Check_p.j2 k x32 x33 x34 ((rdOf ByteArray.empty x32 x34).toList == (rdOf ByteArray.empty zab 0).toList) zaa zab zac zad) else (none)) else (commit_Check_p.j2 k x32 x33 x34 false zaa zab zac zad)) else (commit_Check_p.j2 k x32 x33 x34 true zaa zab zac zad)) else (none)) else (none)) else (some 0)
def commit_Check_p.j2 : Nat → List ByteArray → Int → Int → Bool → Int → List ByteArray → ByteArray → ByteArray → Option (Int)
  | 0, _, _, _, _, _, _, _, _ => none
  | k + 1, x32, x33, x34, x53, zaa, zab, zac, zad => if x53 = true then (some 2) else (commit_Check_p.l0 k x32 x33 (wrap64 (x34 + 1)) zaa zab zac zad)
end
def commit_Check_p.f (k : Nat) (a0_0 : Int) (l0_1 : List ByteArray) (a0_2 : ByteArray) (a0_3 : ByteArray) : Option (Int) := if a0_0 < 1 then (commit_Check_p.j0 k true a0_0 l0_1 a0_2 a0_3) else (if a0_0 > 4294967295 then (commit_Check_p.j0 k true a0_0 l0_1 a0_2 a0_3) else (commit_Check_p.j0 k (decide ((l0_1.length : Int) > 2)) a0_0 l0_1 a0_2 a0_3))
theorem commit_Check_p.mono_l : ∀ k, (∀ y0 y1 y2 y3 y4, LeO (commit_Check_p.j0 k y0 y1 y2 y3 y4) (commit_Check_p.j0 (k + 1) y0 y1 y2 y3 y4)) ∧ (∀ y0 y1 y2 y3 y4 y5 y6, LeO (commit_Check_p.l0 k y0 y1 y2 y3 y4 y5 y6) (commit_Check_p.l0 (k + 1) y0 y1 y2 y3 y4 y5 y6)) ∧ (∀ y0 y1 y2 y3 y4 y5 y6 y7, LeO (commit_Check_p.j2 k y0 y1 y2 y3 y4 y5 y6 y7) (commit_Check_p.j2 (k + 1) y0 y1 y2 y3 y4 y5 y6 y7))
  | 0 => ⟨fun _ _ _ _ _ r h => by simp [commit_Check_p.j0] at h, fun _ _ _ _ _ _ _ r h => by simp [commit_Check_p.l0] at h, fun _ _ _ _ _ _ _ _ r h => by simp [commit_Check_p.j2] at h⟩
  | k + 1 => by
    obtain ⟨ih0, ih1, ih2⟩ := commit_Check_p.mono_l k
    refine ⟨?_, ?_, ?_⟩
    · intro y0 y1 y2 y3 y4
      unfold commit_Check_p.j0
      repeat' first
      | (with_reducible exact ih0 _ _ _ _ _)
      | (with_reducible exact ih1 _ _ _ _ _ _ _)
      | (with_reducible exact ih2 _ _ _ _ _ _ _ _)
      | (with_reducible exact LeO.refl _)
      | (with_reducible exact LeO.none _)
      | (with_reducible refine LeO.ite ?_ ?_)
      | (with_reducible refine LeO.bind ?_ (fun _ => ?_))
      | exact ih0 _ _ _ _ _
      | exact ih1 _ _ _ _ _ _ _
      | exact ih2 _ _ _ _ _ _ _ _
      | exact LeO.none _
      | refine LeO.ite ?_ ?_
      | refine LeO.bind ?_ (fun _ => ?_)
    · intro y0 y1 y2 y3 y4 y5 y6
      unfold commit_Check_p.l0
      repeat' first
      | (with_reducible exact ih0 _ _ _ _ _)
      | (with_reducible exact ih1 _ _ _ _ _ _ _)
      | (with_reducible exact ih2 _ _ _ _ _ _ _ _)
      | (with_reducible exact LeO.refl _)
      | (with_reducible exact LeO.none _)
      | (with_reducible refine LeO.ite ?_ ?_)
      | (with_reducible refine LeO.bind ?_ (fun _ => ?_))
      | exact ih0 _ _ _ _ _
      | exact ih1 _ _ _ _ _ _ _
      | exact ih2 _ _ _ _ _ _ _ _
      | exact LeO.none _
      | refine LeO.ite ?_ ?_
      | refine LeO.bind ?_ (fun _ => ?_)
    · intro y0 y1 y2 y3 y4 y5 y6 y7
      unfold commit_Check_p.j2
      repeat' first
      | (with_reducible exact ih0 _ _ _ _ _)
      | (with_reducible exact ih1 _ _ _ _ _ _ _)
      | (with_reducible exact ih2 _ _ _ _ _ _ _ _)
      | (with_reducible exact LeO.refl _)
      | (with_reducible exact LeO.none _)
      | (with_reducible refine LeO.ite ?_ ?_)
      | (with_reducible refine LeO.bind ?_ (fun _ => ?_))
      | exact ih0 _ _ _ _ _
      | exact ih1 _ _ _ _ _ _ _
      | exact ih2 _ _ _ _ _ _ _ _
      | exact LeO.none _
      | refine LeO.ite ?_ ?_
      | refine LeO.bind ?_ (fun _ => ?_)
theorem commit_Check_p.mono : ∀ a0 a1 a2 a3 k, LeO (commit_Check_p.f k a0 a1 a2 a3) (commit_Check_p.f (k + 1) a0 a1 a2 a3) := by
  intro a0 a1 a2 a3 k
  obtain ⟨ih0, ih1, ih2⟩ := commit_Check_p.mono_l k
  unfold commit_Check_p.f
  repeat' first
      | (with_reducible exact ih0 _ _ _ _ _)
      | (with_reducible exact ih1 _ _ _ _ _ _ _)
      | (with_reducible exact ih2 _ _ _ _ _ _ _ _)
      | (with_reducible exact LeO.refl _)
      | (with_reducible exact LeO.none _)
      | (with_reducible refine LeO.ite ?_ ?_)
      | (with_reducible refine LeO.bind ?_ (fun _ => ?_))
      | exact ih0 _ _ _ _ _
      | exact ih1 _ _ _ _ _ _ _
      | exact ih2 _ _ _ _ _ _ _ _
      | exact LeO.none _
      | refine LeO.ite ?_ ?_
      | refine LeO.bind ?_ (fun _ => ?_)
set_option maxHeartbeats 8000000 in
set_option maxRecDepth 100000 in
theorem commit_Check_p.calls (k : Nat) (a0_0 : Int) (A0_1 : Option Addr) (c0_1 : Nat) (l0_1 : List ByteArray) (a0_2 : ByteArray) (a0_3 : ByteArray) (r : Int) (w : World) (hr0_1 : Kd.C Kd.string w A0_1 l0_1.length l0_1) (hc0_1 : l0_1.length ≤ c0_1) (h : commit_Check_p.f k a0_0 l0_1 a0_2 a0_3 = some r) :
    Calls Tryd.prog 31 #[.agg #[.int .i64 a0_0, .slice A0_1 l0_1.length c0_1, .string a0_2, .string a0_3]] w fun e w' => e = .returned (.int .i64 r) ∧ Below w.heap.size w w' := by
 have hu49 := Tryd.underlying49
 have HR0_1 := Aside0.mk hr0_1
 have HC0_1 := Aside0.mk hc0_1
 clear hr0_1 hc0_1
 have HB := Aside0.mk (Below.refl w.heap.size w)
 have H : (if a0_0 < 1 then (commit_Check_p.j0 k true a0_0 l0_1 a0_2 a0_3) else (if a0_0 > 4294967295 then (commit_Check_p.j0 k true a0_0 l0_1 a0_2 a0_3) else (commit_Check_p.j0 k (decide ((l0_1.length : Int) > 2)) a0_0 l0_1 a0_2 a0_3))) = some r := h
 clear h
 have HC2 := Aside0.mk H
 clear H
 go_enter Tryd.func31, Tryd.ntmps31
 go_upto_region 1 with (first | ((with_reducible refine gate_dst (N := 1) rfl ?_); (try (refine gate_guard (by rfl) ?_; dsimp only)); refine M.bx 1 49 (#[.int .i64 a0_0, .slice A0_1 l0_1.length c0_1, .string a0_2, .string a0_3]) ?_; intro zae hg w3 hbox hb; have zaf := Aside0.mk (hbox); have zag := M.upG HB hg; have zah := M.upG HB hg; replace HB := M.upS HB hb; clear hb hbox hg))
 (try simp only [Act.put, List.setIfInBounds_toArray, List.set_cons_zero, List.set_cons_succ])
 go_cut [5] (fun v5 wc => ∃ (kq : Nat) (x5_1 : Bool), v5 = .bool x5_1 ∧ Aside0 (commit_Check_p.j0 kq x5_1 a0_0 l0_1 a0_2 a0_3 = some r) ∧ Aside0 (kq ≤ k) ∧ Aside0 (wc.heap[zae]? = some (.cells #[.int .i64 a0_0, (.slice A0_1 l0_1.length c0_1), .string a0_2, .string a0_3] 49 (0, 0))) ∧ Aside0 (Below w.heap.size w wc))
 case first =>
  have H := HC2.out
  clear HC2
  by_cases c4 : a0_0 < 1
  ·rw [if_pos c4] at H
   have c4b0 := decide_eq_true c4
   clear c4
   (first | rw [c4b0] | (simp only [i64_w, i32_w]; rw [c4b0]) | skip)
   have H' := Aside0.mk H
   clear H
   have zai : w3.cell? ⟨zae, 0, none⟩ = some (.int .i64 a0_0) := (blk_cell zaf.out 0).trans rfl
   have zaj : w3.cell? ⟨zae, 1, none⟩ = some (.slice A0_1 l0_1.length c0_1) := (blk_cell zaf.out 1).trans rfl
   have zak : w3.cell? ⟨zae, 2, none⟩ = some (.string a0_2) := (blk_cell zaf.out 2).trans rfl
   have zal : w3.cell? ⟨zae, 3, none⟩ = some (.string a0_3) := (blk_cell zaf.out 3).trans rfl
   have zam := blk_frozen zaf.out 0
   have zan := blk_frozen zaf.out 1
   have zao := blk_frozen zaf.out 2
   have zap := blk_frozen zaf.out 3
   go_wp2
   go_meet
   case rel => exact ⟨_, (true), M.eqv, H', ⟨by first | omega | exact Nat.le_refl _⟩, ⟨M.bk zaf⟩, ⟨M.up HB⟩⟩
  ·rw [if_neg c4] at H
   have c4b0 := decide_eq_false c4
   clear c4
   (first | rw [c4b0] | (simp only [i64_w, i32_w]; rw [c4b0]) | skip)
   by_cases c6 : a0_0 > 4294967295
   ·rw [if_pos c6] at H
    have c6b0 := decide_eq_true c6
    clear c6
    have H' := Aside0.mk H
    clear H
    have zaq : w3.cell? ⟨zae, 0, none⟩ = some (.int .i64 a0_0) := (blk_cell zaf.out 0).trans rfl
    have zar : w3.cell? ⟨zae, 1, none⟩ = some (.slice A0_1 l0_1.length c0_1) := (blk_cell zaf.out 1).trans rfl
    have zas : w3.cell? ⟨zae, 2, none⟩ = some (.string a0_2) := (blk_cell zaf.out 2).trans rfl
    have zat : w3.cell? ⟨zae, 3, none⟩ = some (.string a0_3) := (blk_cell zaf.out 3).trans rfl
    have zau := blk_frozen zaf.out 0
    have zav := blk_frozen zaf.out 1
    have zaw := blk_frozen zaf.out 2
    have zax := blk_frozen zaf.out 3
    go_wp2
    go_meet
    case rel => exact ⟨_, (true), M.eqv, H', ⟨by first | omega | exact Nat.le_refl _⟩, ⟨M.bk zaf⟩, ⟨M.up HB⟩⟩
   ·rw [if_neg c6] at H
    have c6b0 := decide_eq_false c6
    clear c6
    have H' := Aside0.mk H
    clear H
    have zay : w3.cell? ⟨zae, 0, none⟩ = some (.int .i64 a0_0) := (blk_cell zaf.out 0).trans rfl
    have zaz : w3.cell? ⟨zae, 1, none⟩ = some (.slice A0_1 l0_1.length c0_1) := (blk_cell zaf.out 1).trans rfl
    have zaA : w3.cell? ⟨zae, 2, none⟩ = some (.string a0_2) := (blk_cell zaf.out 2).trans rfl
    have zaB : w3.cell? ⟨zae, 3, none⟩ = some (.string a0_3) := (blk_cell zaf.out 3).trans rfl
    have zaC := blk_frozen zaf.out 0
    have zaD := blk_frozen zaf.out 1
    have zaE := blk_frozen zaf.out 2
    have zaF := blk_frozen zaf.out 3
    go_wp2
    go_meet
    case rel => exact ⟨_, (decide ((l0_1.length : Int) > 2)), M.eqv, H', ⟨by first | omega | exact Nat.le_refl _⟩, ⟨M.bk zaf⟩, ⟨M.up HB⟩⟩
 case rest =>
  clear HC2
  (try clear p2); (try clear c3); (try clear c4); (try clear c4b0); (try clear c6); (try clear c6b0); (try clear zai); (try clear zaj); (try clear zak); (try clear zal); (try clear zaq); (try clear zar); (try clear zas); (try clear zat); (try clear zay); (try clear zaz); (try clear zaA); (try clear zaB); (try clear zam); (try clear zan); (try clear zao); (try clear zap); (try clear zau); (try clear zav); (try clear zaw); (try clear zax); (try clear zaC); (try clear zaD); (try clear zaE); (try clear zaF)
  obtain ⟨kq, x5_1, rfl, HA, HJ1, zaf, HB⟩ := hcut
  cases kq with
  | zero => exact absurd HA.out (by simp [commit_Check_p.j0])
  | succ kj1 =>
   have H := HA.out
   clear HA
   simp only [commit_Check_p.j0] at H
   by_cases c9 : x5_1 = true
   ·subst c9
    have H1 : (some 2) = some r := by rw [if_pos rfl] at H; exact H
    clear H
    have H := H1
    clear H1
    obtain rfl := Option.some.inj H
    go_wp2
    go_ret
    exact M.fin (M.up HB)
   ·replace c9 := Bool.eq_false_iff.mpr c9
    subst c9
    have H1 : (if (a0_2.size : Int) = 32 then (if (a0_3.size : Int) > 40 then (some 2) else (commit_Check_p.l0 kj1 l0_1 (l0_1.length : Int) 0 a0_0 l0_1 a0_2 a0_3)) else (some 2)) = some r := by rw [if_neg (show ¬ (false = true) by decide)] at H; exact H
    clear H
    have H := H1
    clear H1
    by_cases c10 : (a0_2.size : Int) = 32
    ·rw [if_pos c10] at H
     have c10b0 : ((a0_2.size : Int) == 32) = true := beq_iff_eq.mpr c10
     have c10b1 : ((a0_2.size : Int) != 32) = false := bne_eq_false_iff_eq.mpr c10
     clear c10
     by_cases c11 : (a0_3.size : Int) > 40
     ·rw [if_pos c11] at H
      have c11b0 := decide_eq_true c11
      have c11b1 : decide (40 < a0_3.size) = true := decide_eq_true (by omega)
      clear c11
      obtain rfl := Option.some.inj H
      have zaG : wc.cell? ⟨zae, 0, none⟩ = some (.int .i64 a0_0) := (blk_cell zaf.out 0).trans rfl
      have zaH : wc.cell? ⟨zae, 1, none⟩ = some (.slice A0_1 l0_1.length c0_1) := (blk_cell zaf.out 1).trans rfl
      have zaI : wc.cell? ⟨zae, 2, none⟩ = some (.string a0_2) := (blk_cell zaf.out 2).trans rfl
      have zaJ : wc.cell? ⟨zae, 3, none⟩ = some (.string a0_3) := (blk_cell zaf.out 3).trans rfl
      have zaK := blk_frozen zaf.out 0
      have zaL := blk_frozen zaf.out 1
      have zaM := blk_frozen zaf.out 2
      have zaN := blk_frozen zaf.out 3
      go_wp2
      go_ret
      exact M.fin (M.up HB)
     ·rw [if_neg c11] at H
      have c11b0 := decide_eq_false c11
      have c11b1 : decide (40 < a0_3.size) = false := decide_eq_false (by omega)
      clear c11
      have H' := Aside0.mk H
      clear H
      have zaO : wc.cell? ⟨zae, 0, none⟩ = some (.int .i64 a0_0) := (blk_cell zaf.out 0).trans rfl
      have zaP : wc.cell? ⟨zae, 1, none⟩ = some (.slice A0_1 l0_1.length c0_1) := (blk_cell zaf.out 1).trans rfl
      have zaQ : wc.cell? ⟨zae, 2, none⟩ = some (.string a0_2) := (blk_cell zaf.out 2).trans rfl
      have zaR : wc.cell? ⟨zae, 3, none⟩ = some (.string a0_3) := (blk_cell zaf.out 3).trans rfl
      have zaS := blk_frozen zaf.out 0
      have zaT := blk_frozen zaf.out 1
      have zaU := blk_frozen zaf.out 2
      have zaV := blk_frozen zaf.out 3
      go_wp2
      go_loopg [34] kj1 (fun kq v34 w' => ∃ (x34_2 : Int), v34 = .int .i64 x34_2 ∧ Aside0 (commit_Check_p.l0 kq l0_1 (l0_1.length : Int) x34_2 a0_0 l0_1 a0_2 a0_3 = some r) ∧ Aside0 (kq ≤ kj1) ∧ Aside0 (w'.heap[zae]? = some (.cells #[.int .i64 a0_0, (.slice A0_1 l0_1.length c0_1), .string a0_2, .string a0_3] 49 (0, 0))) ∧ Aside0 (Below w.heap.size w w'))
      case atStart => exact ⟨(0), M.eqv, H', ⟨Nat.le_refl _⟩, ⟨M.bk zaf⟩, ⟨M.up HB⟩⟩
      case round =>
       clear H'
       (try clear c1); (try clear p2); (try clear c3); (try clear c4); (try clear c4b0); (try clear c6); (try clear c6b0); (try clear c9); (try clear c10); (try clear c10b0); (try clear c10b1); (try clear c11); (try clear c11b0); (try clear c11b1); (try clear zaG); (try clear zaH); (try clear zaI); (try clear zaJ); (try clear zaO); (try clear zaP); (try clear zaQ); (try clear zaR); (try clear zai); (try clear zaj); (try clear zak); (try clear zal); (try clear zaq); (try clear zar); (try clear zas); (try clear zat); (try clear zay); (try clear zaz); (try clear zaA); (try clear zaB); (try clear zaK); (try clear zaL); (try clear zaM); (try clear zaN); (try clear zaS); (try clear zaT); (try clear zaU); (try clear zaV); (try clear zam); (try clear zan); (try clear zao); (try clear zap); (try clear zau); (try clear zav); (try clear zaw); (try clear zax); (try clear zaC); (try clear zaD); (try clear zaE); (try clear zaF); (try clear p2)
       obtain ⟨x34_2, rfl, HA, HK2, zaf, HB⟩ := hrel
       cases gk with
       | zero => exact absurd HA.out (by simp [commit_Check_p.l0])
       | succ k2 =>
        have H := HA.out
        clear HA
        simp only [commit_Check_p.l0] at H
        by_cases c14 : x34_2 < (l0_1.length : Int)
        ·rw [if_pos c14] at H
         have c14b0 := decide_eq_true c14
         clear c14
         by_cases c15 : 0 ≤ x34_2
         ·rw [if_pos c15] at H
          have c15b0 := decide_eq_true c15
          clear c15
          by_cases c16 : x34_2 < (l0_1.length : Int)
          ·rw [if_pos c16] at H
           have c16b0 := decide_eq_true c16
           clear c16
           have HC17 := Aside0.mk H
           clear H
           have p200 : 0 ≤ (x34_2 : Int) := M.dt
           have q200 : x34_2 < (l0_1.length : Int) := M.dt
           obtain ⟨ad200, e200, hx200_0⟩ := Kd.at_string HR0_1.out x34_2 p200 q200
           cases e200
           replace hx200_0 := M.hc HB hx200_0
           replace p200 := eq_true p200
           replace q200 := eq_true q200
           go_upto_region 8 with (fail)
           go_cut [53] (fun v53 wc => ∃ (kq : Nat) (x53_16 : Bool), v53 = .bool x53_16 ∧ Aside0 (commit_Check_p.j2 kq l0_1 (l0_1.length : Int) x34_2 x53_16 a0_0 l0_1 a0_2 a0_3 = some r) ∧ Aside0 (kq ≤ k2) ∧ Aside0 (wc.heap[zae]? = some (.cells #[.int .i64 a0_0, (.slice (some ad200) l0_1.length c0_1), .string a0_2, .string a0_3] 49 (0, 0))) ∧ Aside0 (Below w.heap.size w wc))
           case first =>
            have H := HC17.out
            clear HC17
            by_cases c18 : ((rdOf ByteArray.empty l0_1 x34_2).size : Int) = 32
            ·rw [if_pos c18] at H
             have c18b0 : (((rdOf ByteArray.empty l0_1 x34_2).size : Int) == 32) = true := beq_iff_eq.mpr c18
             have c18b1 : (((rdOf ByteArray.empty l0_1 x34_2).size : Int) != 32) = false := bne_eq_false_iff_eq.mpr c18
             clear c18
             (first | rw [c18b0] | (simp only [i64_w, i32_w]; rw [c18b0]) | skip)
             by_cases c19 : x34_2 > 0
             ·rw [if_pos c19] at H
              have c19b0 := decide_eq_true c19
              clear c19
              by_cases c20 : 0 < (l0_1.length : Int)
              ·rw [if_pos c20] at H
               have c20b0 := decide_eq_true c20
               have c20b1 : decide (0 < l0_1.length) = true := decide_eq_true (by omega)
               clear c20
               have H' := Aside0.mk H
               clear H
               have zaW : wr.cell? ⟨zae, 0, none⟩ = some (.int .i64 a0_0) := (blk_cell zaf.out 0).trans rfl
               have zaX : wr.cell? ⟨zae, 1, none⟩ = some (.slice (some ad200) l0_1.length c0_1) := (blk_cell zaf.out 1).trans rfl
               have zaY : wr.cell? ⟨zae, 2, none⟩ = some (.string a0_2) := (blk_cell zaf.out 2).trans rfl
               have zaZ : wr.cell? ⟨zae, 3, none⟩ = some (.string a0_3) := (blk_cell zaf.out 3).trans rfl
               have za0 := blk_frozen zaf.out 0
               have za1 := blk_frozen zaf.out 1
               have za2 := blk_frozen zaf.out 2
               have za3 := blk_frozen zaf.out 3
               have p201 : 0 ≤ (0 : Int) := (by omega)
               have q201 : 0 < (l0_1.length : Int) := M.dt
               obtain ⟨ad201, e201, hx201_0⟩ := Kd.at_string HR0_1.out 0 p201 q201
               obtain rfl : ad200 = ad201 := (by injection e201)
               have qi201 : (0 < l0_1.length) = True := eq_true (by omega)
               (try rw [show ((0 : Int)).toNat = 0 from rfl] at hx201_0)
               (try rw [Addr.add_zero'] at hx201_0)
               replace hx201_0 := M.hc HB hx201_0
               replace p201 := eq_true p201
               replace q201 := eq_true q201
               go_wp2
               go_meet
               case rel => exact ⟨_, (((rdOf ByteArray.empty l0_1 x34_2).toList == (rdOf ByteArray.empty l0_1 0).toList)), M.eqv, H', ⟨by have := HJ1.out; have := HK2.out; first | omega | exact Nat.le_refl _⟩, ⟨M.bk zaf⟩, ⟨M.up HB⟩⟩
              ·exact M.nf c20 H
             ·rw [if_neg c19] at H
              have c19b0 := decide_eq_false c19
              clear c19
              have H' := Aside0.mk H
              clear H
              go_wp2
              go_meet
              case rel => exact ⟨_, (false), M.eqv, H', ⟨by have := HJ1.out; have := HK2.out; first | omega | exact Nat.le_refl _⟩, ⟨M.bk zaf⟩, ⟨M.up HB⟩⟩
            ·rw [if_neg c18] at H
             have c18b0 : (((rdOf ByteArray.empty l0_1 x34_2).size : Int) == 32) = false := beq_eq_false_iff_ne.mpr c18
             have c18b1 : (((rdOf ByteArray.empty l0_1 x34_2).size : Int) != 32) = true := bne_iff_ne.mpr c18
             (first | rw [c18b0] | (simp only [i64_w, i32_w]; rw [c18b0]) | skip)
             have H' := Aside0.mk H
             clear H
             go_wp2
             go_meet
             case rel => exact ⟨_, (true), M.eqv, H', ⟨by have := HJ1.out; have := HK2.out; first | omega | exact Nat.le_refl _⟩, ⟨M.bk zaf⟩, ⟨M.up HB⟩⟩
           case rest =>
            clear HC17
            (try clear c1); (try clear c2); (try clear p2); (try clear q2); (try clear hx2); (try clear qi2); (try clear c3); (try clear c4); (try clear c4b0); (try clear c6); (try clear c6b0); (try clear c9); (try clear c10); (try clear c10b0); (try clear c10b1); (try clear c11); (try clear c11b0); (try clear c11b1); (try clear c14); (try clear c14b0); (try clear c15); (try clear c15b0); (try clear c16); (try clear c16b0); (try clear c18); (try clear c18b0); (try clear c18b1); (try clear c19); (try clear c19b0); (try clear c20); (try clear c20b0); (try clear c20b1); (try clear p20); (try clear q20); (try clear hx20); (try clear qi20); (try clear zaG); (try clear zaH); (try clear zaI); (try clear zaJ); (try clear zaO); (try clear zaP); (try clear zaQ); (try clear zaR); (try clear zaW); (try clear zaX); (try clear zaY); (try clear zaZ); (try clear zai); (try clear zaj); (try clear zak); (try clear zal); (try clear zaq); (try clear zar); (try clear zas); (try clear zat); (try clear zay); (try clear zaz); (try clear zaA); (try clear zaB); (try clear zaK); (try clear zaL); (try clear zaM); (try clear zaN); (try clear zaS); (try clear zaT); (try clear zaU); (try clear zaV); (try clear za0); (try clear za1); (try clear za2); (try clear za3); (try clear zam); (try clear zan); (try clear zao); (try clear zap); (try clear zau); (try clear zav); (try clear zaw); (try clear zax); (try clear zaC); (try clear zaD); (try clear zaE); (try clear zaF); (try clear hx200_0); (try clear hx201_0); (try clear p2); (try clear p200); (try clear p201); (try clear q200); (try clear q201)
            obtain ⟨kq, x53_16, rfl, HA, HJ16, zaf, HB⟩ := hcut
            cases kq with
            | zero => exact absurd HA.out (by simp [commit_Check_p.j2])
            | succ kj16 =>
             have H := HA.out
             clear HA
             simp only [commit_Check_p.j2] at H
             by_cases c22 : x53_16 = true
             ·subst c22
              have H1 : (some 2) = some r := by rw [if_pos rfl] at H; exact H
              clear H
              have H := H1
              clear H1
              obtain rfl := Option.some.inj H
              go_wp2
              go_ret
              exact M.fin (M.up HB)
             ·replace c22 := Bool.eq_false_iff.mpr c22
              subst c22
              have H1 : (commit_Check_p.l0 kj16 l0_1 (l0_1.length : Int) (wrap64 (x34_2 + 1)) a0_0 l0_1 a0_2 a0_3) = some r := by rw [if_neg (show ¬ (false = true) by decide)] at H; exact H
              clear H
              have H := H1
              clear H1
              have H' := Aside0.mk H
              clear H
              go_wp2
              go_roundg kj16
              case measure => have := HJ1.out; have := HK2.out; have := HJ16.out; omega
              case rel => exact ⟨(wrap64 (x34_2 + 1)), M.eqv, H', ⟨by have := HJ1.out; have := HK2.out; have := HJ16.out; omega⟩, ⟨M.bk zaf⟩, ⟨M.up HB⟩⟩
          ·exact M.nf c16 H
         ·exact M.nf c15 H
        ·rw [if_neg c14] at H
         have c14b0 := decide_eq_false c14
         clear c14
         obtain rfl := Option.some.inj H
         go_wp2
         go_ret
         exact M.fin (M.up HB)
    ·rw [if_neg c10] at H
     have c10b0 : ((a0_2.size : Int) == 32) = false := beq_eq_false_iff_ne.mpr c10
     have c10b1 : ((a0_2.size : Int) != 32) = true := bne_iff_ne.mpr c10
     obtain rfl := Option.some.inj H
     have za4 : wc.cell? ⟨zae, 0, none⟩ = some (.int .i64 a0_0) := (blk_cell zaf.out 0).trans rfl
     have za5 : wc.cell? ⟨zae, 1, none⟩ = some (.slice A0_1 l0_1.length c0_1) := (blk_cell zaf.out 1).trans rfl
     have za6 : wc.cell? ⟨zae, 2, none⟩ = some (.string a0_2) := (blk_cell zaf.out 2).trans rfl
     have za7 : wc.cell? ⟨zae, 3, none⟩ = some (.string a0_3) := (blk_cell zaf.out 3).trans rfl
     have za8 := blk_frozen zaf.out 0
     have za9 := blk_frozen zaf.out 1
     have zba := blk_frozen zaf.out 2
     have zbb := blk_frozen zaf.out 3
     go_wp2
     go_ret
     exact M.fin (M.up HB)
def commit_Check.f (a0_0 : Int) (l0_1 : List ByteArray) (a0_2 : ByteArray) (a0_3 : ByteArray) : Option Int := some (if M.isC a0_0 l0_1 a0_2 a0_3 then 0 else 2)
theorem commit_Check.ne {a b : ByteArray} : (a.toList == b.toList) = decide (a = b) := by
 by_cases h : a = b
 ·subst h; simp
 ·rw [decide_eq_false h]
  rw [beq_eq_false_iff_ne, M.toList_bs, M.toList_bs]
  exact fun e => h (M.bs_inj e)
theorem commit_Check.loop (n : Int) (ps : List ByteArray) (g note : ByteArray) (hl : ps.length ≤ 2) :
    commit_Check_p.l0 9 ps (ps.length : Int) 0 n ps g note = some (if (∀ p ∈ ps, p.size = 32) ∧ (ps.length = 2 → ps.getD 0 ByteArray.empty ≠ ps.getD 1 ByteArray.empty) then 0 else 2) := by
 match ps, hl with
 | [], _ => rw [commit_Check_p.l0, if_neg (by simp), if_pos ⟨by simp, by simp⟩]
 | [a], _ =>
  have r0 : rdOf ByteArray.empty [a] 0 = a := rfl
  rw [commit_Check_p.l0, if_pos (by simp), if_pos (by decide), if_pos (by simp), r0]
  by_cases ha : a.size = 32
  ·rw [if_pos (by omega), if_neg (by decide), commit_Check_p.j2, if_neg (by simp), show wrap64 (0 + 1) = 1 from M.wrap64_id (i := 1) (by decide) (by decide), commit_Check_p.l0, if_neg (by simp), if_pos ⟨by simp [ha], by simp⟩]
  ·rw [if_neg (by omega), commit_Check_p.j2, if_pos rfl, if_neg (fun z => ha (z.1 a List.mem_cons_self))]
 | [a, b], _ =>
  have r0 : rdOf ByteArray.empty [a, b] 0 = a := rfl
  have r1 : rdOf ByteArray.empty [a, b] 1 = b := rfl
  rw [commit_Check_p.l0, if_pos (by simp), if_pos (by decide), if_pos (by simp), r0]
  by_cases ha : a.size = 32
  ·rw [if_pos (by omega), if_neg (by decide), commit_Check_p.j2, if_neg (by simp), show wrap64 (0 + 1) = 1 from M.wrap64_id (i := 1) (by decide) (by decide), commit_Check_p.l0, if_pos (by simp), if_pos (by decide), if_pos (by simp), r1]
   by_cases hb : b.size = 32
   ·rw [if_pos (by omega), if_pos (by decide), if_pos (by simp), r0, commit_Check_p.j2, commit_Check.ne]
    by_cases hab : b = a
    ·rw [if_pos (decide_eq_true hab), if_neg (fun z => z.2 rfl hab.symm)]
    ·rw [if_neg (by simp [hab]), show wrap64 (1 + 1) = 2 from M.wrap64_id (i := 2) (by decide) (by decide), commit_Check_p.l0, if_neg (by simp), if_pos ⟨by simp [ha, hb], fun _ e => hab e.symm⟩]
   ·rw [if_neg (by omega), commit_Check_p.j2, if_pos rfl, if_neg (fun z => hb (z.1 b (by simp)))]
  ·rw [if_neg (by omega), commit_Check_p.j2, if_pos rfl, if_neg (fun z => ha (z.1 a List.mem_cons_self))]
theorem commit_Check.ev (n : Int) (ps : List ByteArray) (g note : ByteArray) (r : Int) (h : commit_Check.f n ps g note = some r) : ∃ k, commit_Check_p.f k n ps g note = some r := by
 unfold commit_Check.f at h
 obtain rfl := Option.some.inj h
 refine ⟨10, ?_⟩
 unfold commit_Check_p.f
 by_cases c1 : n < 1
 ·rw [if_pos c1, commit_Check_p.j0, if_pos rfl, if_neg (fun z => by have := z.1.1; omega)]
 rw [if_neg c1]
 by_cases c2 : n > 4294967295
 ·rw [if_pos c2, commit_Check_p.j0, if_pos rfl, if_neg (fun z => by have := z.1.2; omega)]
 rw [if_neg c2, commit_Check_p.j0]
 by_cases c3 : ps.length > 2
 ·rw [if_pos (decide_eq_true (by omega)), if_neg (fun z => by have := z.2.1; omega)]
 rw [if_neg (by simp; omega)]
 by_cases c4 : g.size = 32
 ·rw [if_pos (by omega)]
  by_cases c5 : note.size > 40
  ·rw [if_pos (by omega), if_neg (fun z => by have := z.2.2.2.1; omega)]
  ·rw [if_neg (by omega), commit_Check.loop n ps g note (by omega)]
   congr 1
   by_cases c6 : (∀ p ∈ ps, p.size = 32) ∧ (ps.length = 2 → ps.getD 0 ByteArray.empty ≠ ps.getD 1 ByteArray.empty)
   ·rw [if_pos c6, if_pos ⟨⟨by omega, by omega⟩, by omega, c4, by omega, c6⟩]
   ·rw [if_neg c6, if_neg (fun z => c6 z.2.2.2.2)]
 ·rw [if_neg (by omega), if_neg (fun z => c4 z.2.2.1)]
theorem commit_Check.calls (a0_0 : Int) (A0_1 : Option Addr) (c0_1 : Nat) (l0_1 : List ByteArray) (a0_2 : ByteArray) (a0_3 : ByteArray) (r : Int) (w : World) (hr0_1 : Kd.C Kd.string w A0_1 l0_1.length l0_1) (hc0_1 : l0_1.length ≤ c0_1) (h : commit_Check.f a0_0 l0_1 a0_2 a0_3 = some r) :
    Calls Tryd.prog 31 #[.agg #[.int .i64 a0_0, .slice A0_1 l0_1.length c0_1, .string a0_2, .string a0_3]] w fun e w' => e = .returned (.int .i64 r) ∧ Below w.heap.size w w' := by
 obtain ⟨k, hk⟩ := commit_Check.ev _ _ _ _ _ h
 exact commit_Check_p.calls (k := k) (w := w) (h := hk) (hr0_1 := hr0_1) (hc0_1 := hc0_1)
end Go.Proofs.YtkjbhgolillidaaDoor.EMarkNames
