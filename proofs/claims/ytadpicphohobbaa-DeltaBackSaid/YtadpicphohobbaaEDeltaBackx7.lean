-- Written by this session's own program (wip/tools/ext.py) for this claim; Lean checks it.
import Derived.Test.YtadpicphohobbaaEDeltaBackx0
import Derived.Test.YtadpicphohobbaaEDeltaBackx2
import Derived.Test.YtadpicphohobbaaEDeltaBackx3
import Derived.Test.YtadpicphohobbaaEDeltaBackx4
import Derived.Test.YtadpicphohobbaaEDeltaBackx6
namespace Go.Proofs.Ytadpicphohobbaa.EDeltaBack
open Go.RowKit Go.Proofs.YtadpicphohobbaaW.PrintWords Go.Proofs.YtadpicphohobbaaW.PrintLast Go.Proofs.YtadpicphohobbaaW.PrintMore
attribute [local go_sem] M.run_leq M.run_gtr M.run_geq max2_int min2_int max_two min_two max_three min_three max_four min_four   -- for this text's walks alone
set_option linter.unusedVariables false
set_option linter.unusedSimpArgs false

/-! ### delta_Join_p: function 17 -/
def delta_Join_p.l0 : Nat → ByteArray → List Int → List (S34) → Int → Int → Option (ByteArray × Int)
  | 0, _, _, _, _, _ => none
  | k + 1, x0, x6, x10, x11, x12 => if x12 < x11 then (if 0 ≤ x12 then (if x12 < (x10.length : Int) then ((delta_Check.f ((rd_T34 x10 x12).f0) ((rd_T34 x10 x12).f1) ((rd_T34 x10 x12).f2) ((rd_T34 x10 x12).f3)).bind fun t201 => (if t201 = 0 then (if ((rd_T34 x10 x12).f2) > (wrap64 (65536 - (x6.length : Int))) then (some ((⟨#[]⟩ : ByteArray), 5)) else (if ((rd_T34 x10 x12).f0 = true) then (if ((rd_T34 x10 x12).f1) > (x0.size : Int) then (some ((⟨#[]⟩ : ByteArray), 8)) else (if ((rd_T34 x10 x12).f2) > (wrap64 ((x0.size : Int) - ((rd_T34 x10 x12).f1))) then (some ((⟨#[]⟩ : ByteArray), 8)) else (if 0 ≤ ((rd_T34 x10 x12).f1) then (if ((rd_T34 x10 x12).f1) ≤ (wrap64 (((rd_T34 x10 x12).f1) + ((rd_T34 x10 x12).f2))) then (if (wrap64 (((rd_T34 x10 x12).f1) + ((rd_T34 x10 x12).f2))) ≤ (x0.size : Int) then (if x6.length + (x0.extract (((rd_T34 x10 x12).f1) : Int).toNat ((wrap64 (((rd_T34 x10 x12).f1) + ((rd_T34 x10 x12).f2))) : Int).toNat).size < 140737488355328 then (delta_Join_p.l0 k x0 (x6 ++ bytesOf (x0.extract (((rd_T34 x10 x12).f1) : Int).toNat ((wrap64 (((rd_T34 x10 x12).f1) + ((rd_T34 x10 x12).f2))) : Int).toNat)) x10 x11 (wrap64 (x12 + 1))) else (none)) else (none)) else (none)) else (none)))) else (if x6.length + ((rd_T34 x10 x12).f3).size < 140737488355328 then (delta_Join_p.l0 k x0 (x6 ++ bytesOf ((rd_T34 x10 x12).f3)) x10 x11 (wrap64 (x12 + 1))) else (none)))) else (some ((⟨#[]⟩ : ByteArray), t201)))) else (none)) else (none)) else (some (strOfNums x6, 0))
def delta_Join_p.f (k : Nat) (a0 : ByteArray) (l1 : List (S34)) : Option (ByteArray × Int) := delta_Join_p.l0 k a0 ([] : List Int) l1 (l1.length : Int) 0
theorem delta_Join_p.mono_l : ∀ k, (∀ y0 y1 y2 y3 y4, LeO (delta_Join_p.l0 k y0 y1 y2 y3 y4) (delta_Join_p.l0 (k + 1) y0 y1 y2 y3 y4))
  | 0 => fun _ _ _ _ _ r h => by simp [delta_Join_p.l0] at h
  | k + 1 => by
    have ih0 := delta_Join_p.mono_l k
    · intro y0 y1 y2 y3 y4
      unfold delta_Join_p.l0
      repeat' first
      | (with_reducible exact ih0 _ _ _ _ _)
      | (with_reducible exact LeO.refl _)
      | (with_reducible exact LeO.none _)
      | (with_reducible refine LeO.ite ?_ ?_)
      | (with_reducible refine LeO.bind ?_ (fun _ => ?_))
      | exact ih0 _ _ _ _ _
      | exact LeO.none _
      | refine LeO.ite ?_ ?_
      | refine LeO.bind ?_ (fun _ => ?_)
theorem delta_Join_p.mono : ∀ a0 a1 k, LeO (delta_Join_p.f k a0 a1) (delta_Join_p.f (k + 1) a0 a1) := by
  intro a0 a1 k
  have ih0 := delta_Join_p.mono_l k
  unfold delta_Join_p.f
  repeat' first
      | (with_reducible exact ih0 _ _ _ _ _)
      | (with_reducible exact LeO.refl _)
      | (with_reducible exact LeO.none _)
      | (with_reducible refine LeO.ite ?_ ?_)
      | (with_reducible refine LeO.bind ?_ (fun _ => ?_))
      | exact ih0 _ _ _ _ _
      | exact LeO.none _
      | refine LeO.ite ?_ ?_
      | refine LeO.bind ?_ (fun _ => ?_)
set_option maxHeartbeats 8000000 in
set_option maxRecDepth 100000 in
theorem delta_Join_p.calls (k : Nat) (a0 : ByteArray) (A1 : Option Addr) (c1 : Nat) (l1 : List (S34)) (r1 : ByteArray) (r2 : Int) (w : World) (hr1 : Kd.C k34 w A1 l1.length l1) (hc1 : l1.length ≤ c1) (h : delta_Join_p.f k a0 l1 = some (r1, r2)) :
    Calls Try.prog 17 #[.string a0, .slice A1 l1.length c1] w fun e w' => e = .returned (.tuple #[.string r1, .int .i64 r2]) ∧ Below w.heap.size w w' := by
  have hu34 := Try.underlying34
  have HR1 := Aside0.mk hr1
  have HC1 := Aside0.mk hc1
  clear hr1 hc1
  have HB := Aside0.mk (Below.refl w.heap.size w)
  have H : (delta_Join_p.l0 k a0 ([] : List Int) l1 (l1.length : Int) 0) = some (r1, r2) := h
  clear h
  have H' := Aside0.mk H
  clear H
  go_enter Try.func17, Try.ntmps17
  go_wp2
  go_loopg [6, 12] k (fun kq v6 v12 w' => ∃ (x6_1 : List Int) (x12_1 : Int), v12 = .int .i64 x12_1 ∧ Aside0 (delta_Join_p.l0 kq a0 x6_1 l1 (l1.length : Int) x12_1 = some (r1, r2)) ∧ Aside0 (kq ≤ k) ∧ Aside0 (Kd.R (Kd.int .u8) 5 w' w.heap.size (fun _ => True) v6 x6_1) ∧ Aside0 (Below w.heap.size w w'))
  case atStart => exact ⟨(([] : List Int)), (0), (by first | rfl | (simp; done) | (simp [*]; done) | (simp [M.isEmpty_bne]; done)), H', ⟨Nat.le_refl _⟩, ⟨by first | exact Kd.R_nil _ _ _ _ _ | exact Kd.N_nil _ _ _ _ _ | exact Kd.V_nil _ _ _ _ _ | exact Kd.Q_nil _ _ _ _ _ | exact Kd.S_nil _ _ _ _ _⟩, ⟨M.up HB⟩⟩
  case round =>
    clear H'
    try clear c1
    try clear p2
    obtain ⟨x6_1, x12_1, rfl, HA, HK1, zaa, HB⟩ := hrel
    cases gk with
    | zero => exact absurd HA.out (by simp [delta_Join_p.l0])
    | succ k1 =>
      have H := HA.out
      clear HA
      simp only [delta_Join_p.l0] at H
      by_cases c3 : x12_1 < (l1.length : Int)
      · rw [if_pos c3] at H
        have c3b0 : decide (x12_1 < (l1.length : Int)) = true := decide_eq_true c3
        clear c3
        by_cases c4 : 0 ≤ x12_1
        · rw [if_pos c4] at H
          have c4b0 : decide (0 ≤ x12_1) = true := decide_eq_true c4
          clear c4
          by_cases c5 : x12_1 < (l1.length : Int)
          · rw [if_pos c5] at H
            have c5b0 : decide (x12_1 < (l1.length : Int)) = true := decide_eq_true c5
            clear c5
            replace H := Option.bind_eq_some_iff.mp H
            obtain ⟨t201, A60, H⟩ := H
            replace H : (if t201 = 0 then (if ((rd_T34 l1 x12_1).f2) > (wrap64 (65536 - (x6_1.length : Int))) then (some ((⟨#[]⟩ : ByteArray), 5)) else (if ((rd_T34 l1 x12_1).f0 = true) then (if ((rd_T34 l1 x12_1).f1) > (a0.size : Int) then (some ((⟨#[]⟩ : ByteArray), 8)) else (if ((rd_T34 l1 x12_1).f2) > (wrap64 ((a0.size : Int) - ((rd_T34 l1 x12_1).f1))) then (some ((⟨#[]⟩ : ByteArray), 8)) else (if 0 ≤ ((rd_T34 l1 x12_1).f1) then (if ((rd_T34 l1 x12_1).f1) ≤ (wrap64 (((rd_T34 l1 x12_1).f1) + ((rd_T34 l1 x12_1).f2))) then (if (wrap64 (((rd_T34 l1 x12_1).f1) + ((rd_T34 l1 x12_1).f2))) ≤ (a0.size : Int) then (if x6_1.length + (a0.extract (((rd_T34 l1 x12_1).f1) : Int).toNat ((wrap64 (((rd_T34 l1 x12_1).f1) + ((rd_T34 l1 x12_1).f2))) : Int).toNat).size < 140737488355328 then (delta_Join_p.l0 k1 a0 (x6_1 ++ bytesOf (a0.extract (((rd_T34 l1 x12_1).f1) : Int).toNat ((wrap64 (((rd_T34 l1 x12_1).f1) + ((rd_T34 l1 x12_1).f2))) : Int).toNat)) l1 (l1.length : Int) (wrap64 (x12_1 + 1))) else (none)) else (none)) else (none)) else (none)))) else (if x6_1.length + ((rd_T34 l1 x12_1).f3).size < 140737488355328 then (delta_Join_p.l0 k1 a0 (x6_1 ++ bytesOf ((rd_T34 l1 x12_1).f3)) l1 (l1.length : Int) (wrap64 (x12_1 + 1))) else (none)))) else (some ((⟨#[]⟩ : ByteArray), t201))) = some (r1, r2) := H
            have A6 := Aside0.mk A60
            clear A60
            by_cases c7 : t201 = 0
            · rw [if_pos c7] at H
              have c7b0 : (t201 == 0) = true := beq_iff_eq.mpr c7
              have c7b1 : (t201 != 0) = false := bne_eq_false_iff_eq.mpr c7
              clear c7
              by_cases c8 : ((rd_T34 l1 x12_1).f2) > (wrap64 (65536 - (x6_1.length : Int)))
              · rw [if_pos c8] at H
                have c8b0 : decide ((wrap64 (65536 - (x6_1.length : Int))) < ((rd_T34 l1 x12_1).f2)) = true := decide_eq_true c8
                clear c8
                simp only [Option.some.injEq, Prod.mk.injEq] at H
                obtain ⟨rfl, rfl⟩ := H
                have p199 : 0 ≤ (x12_1 : Int) := of_decide_eq_true (by first | (with_reducible assumption) | assumption)
                have q199 : x12_1 < (l1.length : Int) := of_decide_eq_true (by first | (with_reducible assumption) | assumption)
                obtain ⟨ad199, e199, hx199_0, hx199_1, hx199_2, hx199_3⟩ := at_T34 HR1.out x12_1 p199 q199
                cases e199
                replace hx199_0 := (HB.out.cell (World.block_lt_of_cell? w _ hx199_0)).trans hx199_0
                replace hx199_1 := (HB.out.cell (World.block_lt_of_cell? w _ hx199_1)).trans hx199_1
                replace hx199_2 := (HB.out.cell (World.block_lt_of_cell? w _ hx199_2)).trans hx199_2
                replace hx199_3 := (HB.out.cell (World.block_lt_of_cell? w _ hx199_3)).trans hx199_3
                replace p199 := eq_true p199
                replace q199 := eq_true q199
                go_wp2_with (first | ((with_reducible refine gate_dst (N := 8) rfl ?_); (try (refine gate_guard (by rfl) ?_; dsimp only)); refine box_event ?hg (N := 8) ?hd (cs := #[.bool false, .int .i64 0, .int .i64 0, .string (⟨#[]⟩ : ByteArray)]) (t := 34) ?hr ?_; (case hd => rfl); (case hg => rfl); (case hr => first | (go_simp; done) | (go_simp; rfl)); intro zab hg w9 hbox hb; have n0_ := M.roB zaa hb; have n1_ := M.upS HB hb; have n2_ := Aside0.mk (hbox); have n3_ := M.upG HB hg; have n4_ := M.upG HB hg; clear zaa HB; have zaa := n0_; have HB := n1_; have zac := n2_; have zad := n3_; have zae := n4_; clear n0_ n1_ n2_ n3_ n4_; clear hb hbox hg; have zaf : w9.cell? ⟨zab, 0, none⟩ = some (.bool false) := (blk_cell zac.out 0).trans rfl; have zag : w9.cell? ⟨zab, 1, none⟩ = some (.int .i64 0) := (blk_cell zac.out 1).trans rfl; have zah : w9.cell? ⟨zab, 2, none⟩ = some (.int .i64 0) := (blk_cell zac.out 2).trans rfl; have zai : w9.cell? ⟨zab, 3, none⟩ = some (.string (⟨#[]⟩ : ByteArray)) := (blk_cell zac.out 3).trans rfl; have zaj := blk_frozen zac.out 0; have zak := blk_frozen zac.out 1; have zal := blk_frozen zac.out 2; have zam := blk_frozen zac.out 3) | ((with_reducible refine gate_callee (f := 14) rfl ?_); refine M.goes (some 17) Try.func14 #[.agg #[.bool ((rd_T34 l1 x12_1).f0), .int .i64 ((rd_T34 l1 x12_1).f1), .int .i64 ((rd_T34 l1 x12_1).f2), .string ((rd_T34 l1 x12_1).f3)]] rfl ?_; (with_reducible refine (delta_Check.calls ((rd_T34 l1 x12_1).f0) ((rd_T34 l1 x12_1).f1) ((rd_T34 l1 x12_1).f2) ((rd_T34 l1 x12_1).f3) t201 _ A6.out).mono ?_); rintro e w11 ⟨rfl, hb⟩; refine ⟨_, rfl, ?_⟩; have n0_ := Aside0.mk (Kd.R_below (by (with_reducible repeat (first | apply Kd.R_alloc | apply Kd.R_drewN | apply Kd.R_drew)); exact (Kd.R_mono (Kd.R_far (p := ⟨zab, 3, none⟩) (Kd.R_far (p := ⟨zab, 2, none⟩) (Kd.R_far (p := ⟨zab, 1, none⟩) (Kd.R_far (p := ⟨zab, 0, none⟩) (Kd.R_types zaa.out zac.out (by decide)) (fun _ hk => hk.2) (.bool ((rd_T34 l1 x12_1).f0))) (fun _ hk => hk.2) (.int .i64 ((rd_T34 l1 x12_1).f1))) (fun _ hk => hk.2) (.int .i64 ((rd_T34 l1 x12_1).f2))) (fun _ hk => hk.2) (.string ((rd_T34 l1 x12_1).f3))) (fun _ h_ => h_.1))) hb); have n1_ := Aside0.mk (blk_below (g := zab) (o := .cells #[.bool ((rd_T34 l1 x12_1).f0), .int .i64 ((rd_T34 l1 x12_1).f1), .int .i64 ((rd_T34 l1 x12_1).f2), .string ((rd_T34 l1 x12_1).f3)] 34 (0, 0)) (by (with_reducible repeat (first | refine blk_drewN ?_ _ | refine blk_drew ?_ | refine blk_alloc ?_ _)); refine blk_put (cs := #[.bool ((rd_T34 l1 x12_1).f0), .int .i64 ((rd_T34 l1 x12_1).f1), .int .i64 ((rd_T34 l1 x12_1).f2), .string (⟨#[]⟩ : ByteArray)]) ?_ 3 _ rfl; (with_reducible repeat (first | refine blk_drewN ?_ _ | refine blk_drew ?_ | refine blk_alloc ?_ _)); refine blk_put (cs := #[.bool ((rd_T34 l1 x12_1).f0), .int .i64 ((rd_T34 l1 x12_1).f1), .int .i64 0, .string (⟨#[]⟩ : ByteArray)]) ?_ 2 _ rfl; (with_reducible repeat (first | refine blk_drewN ?_ _ | refine blk_drew ?_ | refine blk_alloc ?_ _)); refine blk_put (cs := #[.bool ((rd_T34 l1 x12_1).f0), .int .i64 0, .int .i64 0, .string (⟨#[]⟩ : ByteArray)]) ?_ 1 _ rfl; (with_reducible repeat (first | refine blk_drewN ?_ _ | refine blk_drew ?_ | refine blk_alloc ?_ _)); refine blk_put (cs := #[.bool false, .int .i64 0, .int .i64 0, .string (⟨#[]⟩ : ByteArray)]) ?_ 0 _ rfl; (with_reducible repeat (first | refine blk_drewN ?_ _ | refine blk_drew ?_ | refine blk_alloc ?_ _)); exact zac.out) hb); have n2_ := M.upS HB hb; clear zaa zac HB; have zaa := n0_; have zac := n1_; have HB := n2_; clear n0_ n1_ n2_; (try clear hb); have zan : w11.cell? ⟨zab, 0, none⟩ = some (.bool ((rd_T34 l1 x12_1).f0)) := (blk_cell zac.out 0).trans rfl; have zao : w11.cell? ⟨zab, 1, none⟩ = some (.int .i64 ((rd_T34 l1 x12_1).f1)) := (blk_cell zac.out 1).trans rfl; have zap : w11.cell? ⟨zab, 2, none⟩ = some (.int .i64 ((rd_T34 l1 x12_1).f2)) := (blk_cell zac.out 2).trans rfl; have zaq : w11.cell? ⟨zab, 3, none⟩ = some (.string ((rd_T34 l1 x12_1).f3)) := (blk_cell zac.out 3).trans rfl; have zar := blk_frozen zac.out 0; have zas := blk_frozen zac.out 1; have zat := blk_frozen zac.out 2; have zau := blk_frozen zac.out 3; obtain ⟨Ao13, co13, eo13⟩ := Kd.R_slice zaa.out; subst eo13))
                go_ret2
                exact M.fin (M.up HB)
              · rw [if_neg c8] at H
                have c8b0 : decide ((wrap64 (65536 - (x6_1.length : Int))) < ((rd_T34 l1 x12_1).f2)) = false := decide_eq_false c8
                clear c8
                obtain ⟨bq14, hbq14⟩ : ∃ b_ : Bool, b_ = ((rd_T34 l1 x12_1).f0) := ⟨_, rfl⟩
                replace H : (if (bq14 = true) then (if ((rd_T34 l1 x12_1).f1) > (a0.size : Int) then (some ((⟨#[]⟩ : ByteArray), 8)) else (if ((rd_T34 l1 x12_1).f2) > (wrap64 ((a0.size : Int) - ((rd_T34 l1 x12_1).f1))) then (some ((⟨#[]⟩ : ByteArray), 8)) else (if 0 ≤ ((rd_T34 l1 x12_1).f1) then (if ((rd_T34 l1 x12_1).f1) ≤ (wrap64 (((rd_T34 l1 x12_1).f1) + ((rd_T34 l1 x12_1).f2))) then (if (wrap64 (((rd_T34 l1 x12_1).f1) + ((rd_T34 l1 x12_1).f2))) ≤ (a0.size : Int) then (if x6_1.length + (a0.extract (((rd_T34 l1 x12_1).f1) : Int).toNat ((wrap64 (((rd_T34 l1 x12_1).f1) + ((rd_T34 l1 x12_1).f2))) : Int).toNat).size < 140737488355328 then (delta_Join_p.l0 k1 a0 (x6_1 ++ bytesOf (a0.extract (((rd_T34 l1 x12_1).f1) : Int).toNat ((wrap64 (((rd_T34 l1 x12_1).f1) + ((rd_T34 l1 x12_1).f2))) : Int).toNat)) l1 (l1.length : Int) (wrap64 (x12_1 + 1))) else (none)) else (none)) else (none)) else (none)))) else (if x6_1.length + ((rd_T34 l1 x12_1).f3).size < 140737488355328 then (delta_Join_p.l0 k1 a0 (x6_1 ++ bytesOf ((rd_T34 l1 x12_1).f3)) l1 (l1.length : Int) (wrap64 (x12_1 + 1))) else (none))) = some (r1, r2) := by rw [← hbq14] at H; exact H
                have Nbq14 := Aside0.mk hbq14
                clear hbq14
                by_cases c15 : (bq14 = true)
                · subst c15
                  have H1 : (if ((rd_T34 l1 x12_1).f1) > (a0.size : Int) then (some ((⟨#[]⟩ : ByteArray), 8)) else (if ((rd_T34 l1 x12_1).f2) > (wrap64 ((a0.size : Int) - ((rd_T34 l1 x12_1).f1))) then (some ((⟨#[]⟩ : ByteArray), 8)) else (if 0 ≤ ((rd_T34 l1 x12_1).f1) then (if ((rd_T34 l1 x12_1).f1) ≤ (wrap64 (((rd_T34 l1 x12_1).f1) + ((rd_T34 l1 x12_1).f2))) then (if (wrap64 (((rd_T34 l1 x12_1).f1) + ((rd_T34 l1 x12_1).f2))) ≤ (a0.size : Int) then (if x6_1.length + (a0.extract (((rd_T34 l1 x12_1).f1) : Int).toNat ((wrap64 (((rd_T34 l1 x12_1).f1) + ((rd_T34 l1 x12_1).f2))) : Int).toNat).size < 140737488355328 then (delta_Join_p.l0 k1 a0 (x6_1 ++ bytesOf (a0.extract (((rd_T34 l1 x12_1).f1) : Int).toNat ((wrap64 (((rd_T34 l1 x12_1).f1) + ((rd_T34 l1 x12_1).f2))) : Int).toNat)) l1 (l1.length : Int) (wrap64 (x12_1 + 1))) else (none)) else (none)) else (none)) else (none)))) = some (r1, r2) := by rw [if_pos rfl] at H; exact H
                  clear H
                  have H := H1
                  clear H1
                  by_cases c16 : ((rd_T34 l1 x12_1).f1) > (a0.size : Int)
                  · rw [if_pos c16] at H
                    have c16b0 : decide ((a0.size : Int) < ((rd_T34 l1 x12_1).f1)) = true := decide_eq_true c16
                    clear c16
                    simp only [Option.some.injEq, Prod.mk.injEq] at H
                    obtain ⟨rfl, rfl⟩ := H
                    have p199 : 0 ≤ (x12_1 : Int) := of_decide_eq_true (by first | (with_reducible assumption) | assumption)
                    have q199 : x12_1 < (l1.length : Int) := of_decide_eq_true (by first | (with_reducible assumption) | assumption)
                    obtain ⟨ad199, e199, hx199_0, hx199_1, hx199_2, hx199_3⟩ := at_T34 HR1.out x12_1 p199 q199
                    (try rw [← Nbq14.out] at hx199_0)
                    cases e199
                    replace hx199_0 := (HB.out.cell (World.block_lt_of_cell? w _ hx199_0)).trans hx199_0
                    replace hx199_1 := (HB.out.cell (World.block_lt_of_cell? w _ hx199_1)).trans hx199_1
                    replace hx199_2 := (HB.out.cell (World.block_lt_of_cell? w _ hx199_2)).trans hx199_2
                    replace hx199_3 := (HB.out.cell (World.block_lt_of_cell? w _ hx199_3)).trans hx199_3
                    replace p199 := eq_true p199
                    replace q199 := eq_true q199
                    go_wp2_with (first | ((with_reducible refine gate_dst (N := 8) rfl ?_); (try (refine gate_guard (by rfl) ?_; dsimp only)); refine box_event ?hg (N := 8) ?hd (cs := #[.bool false, .int .i64 0, .int .i64 0, .string (⟨#[]⟩ : ByteArray)]) (t := 34) ?hr ?_; (case hd => rfl); (case hg => rfl); (case hr => first | (go_simp; done) | (go_simp; rfl)); intro zab hg w17 hbox hb; have n0_ := M.roB zaa hb; have n1_ := M.upS HB hb; have n2_ := Aside0.mk (hbox); have n3_ := M.upG HB hg; have n4_ := M.upG HB hg; clear zaa HB; have zaa := n0_; have HB := n1_; have zac := n2_; have zad := n3_; have zae := n4_; clear n0_ n1_ n2_ n3_ n4_; clear hb hbox hg; have zav : w17.cell? ⟨zab, 0, none⟩ = some (.bool false) := (blk_cell zac.out 0).trans rfl; have zaw : w17.cell? ⟨zab, 1, none⟩ = some (.int .i64 0) := (blk_cell zac.out 1).trans rfl; have zax : w17.cell? ⟨zab, 2, none⟩ = some (.int .i64 0) := (blk_cell zac.out 2).trans rfl; have zay : w17.cell? ⟨zab, 3, none⟩ = some (.string (⟨#[]⟩ : ByteArray)) := (blk_cell zac.out 3).trans rfl; have zaz := blk_frozen zac.out 0; have zaA := blk_frozen zac.out 1; have zaB := blk_frozen zac.out 2; have zaC := blk_frozen zac.out 3) | ((with_reducible refine gate_callee (f := 14) rfl ?_); refine M.goes (some 17) Try.func14 #[.agg #[.bool true, .int .i64 ((rd_T34 l1 x12_1).f1), .int .i64 ((rd_T34 l1 x12_1).f2), .string ((rd_T34 l1 x12_1).f3)]] rfl ?_; (with_reducible refine (delta_Check.calls true ((rd_T34 l1 x12_1).f1) ((rd_T34 l1 x12_1).f2) ((rd_T34 l1 x12_1).f3) t201 _ (by first | exact A6.out | (have q_ := A6.out; rw [← Nbq14.out] at q_; exact q_))).mono ?_); rintro e w19 ⟨rfl, hb⟩; refine ⟨_, rfl, ?_⟩; have n0_ := Aside0.mk (Kd.R_below (by (with_reducible repeat (first | apply Kd.R_alloc | apply Kd.R_drewN | apply Kd.R_drew)); exact (Kd.R_mono (Kd.R_far (p := ⟨zab, 3, none⟩) (Kd.R_far (p := ⟨zab, 2, none⟩) (Kd.R_far (p := ⟨zab, 1, none⟩) (Kd.R_far (p := ⟨zab, 0, none⟩) (Kd.R_types zaa.out zac.out (by decide)) (fun _ hk => hk.2) (.bool true)) (fun _ hk => hk.2) (.int .i64 ((rd_T34 l1 x12_1).f1))) (fun _ hk => hk.2) (.int .i64 ((rd_T34 l1 x12_1).f2))) (fun _ hk => hk.2) (.string ((rd_T34 l1 x12_1).f3))) (fun _ h_ => h_.1))) hb); have n1_ := Aside0.mk (blk_below (g := zab) (o := .cells #[.bool true, .int .i64 ((rd_T34 l1 x12_1).f1), .int .i64 ((rd_T34 l1 x12_1).f2), .string ((rd_T34 l1 x12_1).f3)] 34 (0, 0)) (by (with_reducible repeat (first | refine blk_drewN ?_ _ | refine blk_drew ?_ | refine blk_alloc ?_ _)); refine blk_put (cs := #[.bool true, .int .i64 ((rd_T34 l1 x12_1).f1), .int .i64 ((rd_T34 l1 x12_1).f2), .string (⟨#[]⟩ : ByteArray)]) ?_ 3 _ rfl; (with_reducible repeat (first | refine blk_drewN ?_ _ | refine blk_drew ?_ | refine blk_alloc ?_ _)); refine blk_put (cs := #[.bool true, .int .i64 ((rd_T34 l1 x12_1).f1), .int .i64 0, .string (⟨#[]⟩ : ByteArray)]) ?_ 2 _ rfl; (with_reducible repeat (first | refine blk_drewN ?_ _ | refine blk_drew ?_ | refine blk_alloc ?_ _)); refine blk_put (cs := #[.bool true, .int .i64 0, .int .i64 0, .string (⟨#[]⟩ : ByteArray)]) ?_ 1 _ rfl; (with_reducible repeat (first | refine blk_drewN ?_ _ | refine blk_drew ?_ | refine blk_alloc ?_ _)); refine blk_put (cs := #[.bool false, .int .i64 0, .int .i64 0, .string (⟨#[]⟩ : ByteArray)]) ?_ 0 _ rfl; (with_reducible repeat (first | refine blk_drewN ?_ _ | refine blk_drew ?_ | refine blk_alloc ?_ _)); exact zac.out) hb); have n2_ := M.upS HB hb; clear zaa zac HB; have zaa := n0_; have zac := n1_; have HB := n2_; clear n0_ n1_ n2_; (try clear hb); have zaD : w19.cell? ⟨zab, 0, none⟩ = some (.bool true) := (blk_cell zac.out 0).trans rfl; have zaE : w19.cell? ⟨zab, 1, none⟩ = some (.int .i64 ((rd_T34 l1 x12_1).f1)) := (blk_cell zac.out 1).trans rfl; have zaF : w19.cell? ⟨zab, 2, none⟩ = some (.int .i64 ((rd_T34 l1 x12_1).f2)) := (blk_cell zac.out 2).trans rfl; have zaG : w19.cell? ⟨zab, 3, none⟩ = some (.string ((rd_T34 l1 x12_1).f3)) := (blk_cell zac.out 3).trans rfl; have zaH := blk_frozen zac.out 0; have zaI := blk_frozen zac.out 1; have zaJ := blk_frozen zac.out 2; have zaK := blk_frozen zac.out 3; obtain ⟨Ao21, co21, eo21⟩ := Kd.R_slice zaa.out; subst eo21))
                    go_ret2
                    exact M.fin (M.up HB)
                  · rw [if_neg c16] at H
                    have c16b0 : decide ((a0.size : Int) < ((rd_T34 l1 x12_1).f1)) = false := decide_eq_false c16
                    clear c16
                    by_cases c22 : ((rd_T34 l1 x12_1).f2) > (wrap64 ((a0.size : Int) - ((rd_T34 l1 x12_1).f1)))
                    · rw [if_pos c22] at H
                      have c22b0 : decide ((wrap64 ((a0.size : Int) - ((rd_T34 l1 x12_1).f1))) < ((rd_T34 l1 x12_1).f2)) = true := decide_eq_true c22
                      clear c22
                      simp only [Option.some.injEq, Prod.mk.injEq] at H
                      obtain ⟨rfl, rfl⟩ := H
                      have p199 : 0 ≤ (x12_1 : Int) := of_decide_eq_true (by first | (with_reducible assumption) | assumption)
                      have q199 : x12_1 < (l1.length : Int) := of_decide_eq_true (by first | (with_reducible assumption) | assumption)
                      obtain ⟨ad199, e199, hx199_0, hx199_1, hx199_2, hx199_3⟩ := at_T34 HR1.out x12_1 p199 q199
                      (try rw [← Nbq14.out] at hx199_0)
                      cases e199
                      replace hx199_0 := (HB.out.cell (World.block_lt_of_cell? w _ hx199_0)).trans hx199_0
                      replace hx199_1 := (HB.out.cell (World.block_lt_of_cell? w _ hx199_1)).trans hx199_1
                      replace hx199_2 := (HB.out.cell (World.block_lt_of_cell? w _ hx199_2)).trans hx199_2
                      replace hx199_3 := (HB.out.cell (World.block_lt_of_cell? w _ hx199_3)).trans hx199_3
                      replace p199 := eq_true p199
                      replace q199 := eq_true q199
                      go_wp2_with (first | ((with_reducible refine gate_dst (N := 8) rfl ?_); (try (refine gate_guard (by rfl) ?_; dsimp only)); refine box_event ?hg (N := 8) ?hd (cs := #[.bool false, .int .i64 0, .int .i64 0, .string (⟨#[]⟩ : ByteArray)]) (t := 34) ?hr ?_; (case hd => rfl); (case hg => rfl); (case hr => first | (go_simp; done) | (go_simp; rfl)); intro zab hg w23 hbox hb; have n0_ := M.roB zaa hb; have n1_ := M.upS HB hb; have n2_ := Aside0.mk (hbox); have n3_ := M.upG HB hg; have n4_ := M.upG HB hg; clear zaa HB; have zaa := n0_; have HB := n1_; have zac := n2_; have zad := n3_; have zae := n4_; clear n0_ n1_ n2_ n3_ n4_; clear hb hbox hg; have zaL : w23.cell? ⟨zab, 0, none⟩ = some (.bool false) := (blk_cell zac.out 0).trans rfl; have zaM : w23.cell? ⟨zab, 1, none⟩ = some (.int .i64 0) := (blk_cell zac.out 1).trans rfl; have zaN : w23.cell? ⟨zab, 2, none⟩ = some (.int .i64 0) := (blk_cell zac.out 2).trans rfl; have zaO : w23.cell? ⟨zab, 3, none⟩ = some (.string (⟨#[]⟩ : ByteArray)) := (blk_cell zac.out 3).trans rfl; have zaP := blk_frozen zac.out 0; have zaQ := blk_frozen zac.out 1; have zaR := blk_frozen zac.out 2; have zaS := blk_frozen zac.out 3) | ((with_reducible refine gate_callee (f := 14) rfl ?_); refine M.goes (some 17) Try.func14 #[.agg #[.bool true, .int .i64 ((rd_T34 l1 x12_1).f1), .int .i64 ((rd_T34 l1 x12_1).f2), .string ((rd_T34 l1 x12_1).f3)]] rfl ?_; (with_reducible refine (delta_Check.calls true ((rd_T34 l1 x12_1).f1) ((rd_T34 l1 x12_1).f2) ((rd_T34 l1 x12_1).f3) t201 _ (by first | exact A6.out | (have q_ := A6.out; rw [← Nbq14.out] at q_; exact q_))).mono ?_); rintro e w25 ⟨rfl, hb⟩; refine ⟨_, rfl, ?_⟩; have n0_ := Aside0.mk (Kd.R_below (by (with_reducible repeat (first | apply Kd.R_alloc | apply Kd.R_drewN | apply Kd.R_drew)); exact (Kd.R_mono (Kd.R_far (p := ⟨zab, 3, none⟩) (Kd.R_far (p := ⟨zab, 2, none⟩) (Kd.R_far (p := ⟨zab, 1, none⟩) (Kd.R_far (p := ⟨zab, 0, none⟩) (Kd.R_types zaa.out zac.out (by decide)) (fun _ hk => hk.2) (.bool true)) (fun _ hk => hk.2) (.int .i64 ((rd_T34 l1 x12_1).f1))) (fun _ hk => hk.2) (.int .i64 ((rd_T34 l1 x12_1).f2))) (fun _ hk => hk.2) (.string ((rd_T34 l1 x12_1).f3))) (fun _ h_ => h_.1))) hb); have n1_ := Aside0.mk (blk_below (g := zab) (o := .cells #[.bool true, .int .i64 ((rd_T34 l1 x12_1).f1), .int .i64 ((rd_T34 l1 x12_1).f2), .string ((rd_T34 l1 x12_1).f3)] 34 (0, 0)) (by (with_reducible repeat (first | refine blk_drewN ?_ _ | refine blk_drew ?_ | refine blk_alloc ?_ _)); refine blk_put (cs := #[.bool true, .int .i64 ((rd_T34 l1 x12_1).f1), .int .i64 ((rd_T34 l1 x12_1).f2), .string (⟨#[]⟩ : ByteArray)]) ?_ 3 _ rfl; (with_reducible repeat (first | refine blk_drewN ?_ _ | refine blk_drew ?_ | refine blk_alloc ?_ _)); refine blk_put (cs := #[.bool true, .int .i64 ((rd_T34 l1 x12_1).f1), .int .i64 0, .string (⟨#[]⟩ : ByteArray)]) ?_ 2 _ rfl; (with_reducible repeat (first | refine blk_drewN ?_ _ | refine blk_drew ?_ | refine blk_alloc ?_ _)); refine blk_put (cs := #[.bool true, .int .i64 0, .int .i64 0, .string (⟨#[]⟩ : ByteArray)]) ?_ 1 _ rfl; (with_reducible repeat (first | refine blk_drewN ?_ _ | refine blk_drew ?_ | refine blk_alloc ?_ _)); refine blk_put (cs := #[.bool false, .int .i64 0, .int .i64 0, .string (⟨#[]⟩ : ByteArray)]) ?_ 0 _ rfl; (with_reducible repeat (first | refine blk_drewN ?_ _ | refine blk_drew ?_ | refine blk_alloc ?_ _)); exact zac.out) hb); have n2_ := M.upS HB hb; clear zaa zac HB; have zaa := n0_; have zac := n1_; have HB := n2_; clear n0_ n1_ n2_; (try clear hb); have zaT : w25.cell? ⟨zab, 0, none⟩ = some (.bool true) := (blk_cell zac.out 0).trans rfl; have zaU : w25.cell? ⟨zab, 1, none⟩ = some (.int .i64 ((rd_T34 l1 x12_1).f1)) := (blk_cell zac.out 1).trans rfl; have zaV : w25.cell? ⟨zab, 2, none⟩ = some (.int .i64 ((rd_T34 l1 x12_1).f2)) := (blk_cell zac.out 2).trans rfl; have zaW : w25.cell? ⟨zab, 3, none⟩ = some (.string ((rd_T34 l1 x12_1).f3)) := (blk_cell zac.out 3).trans rfl; have zaX := blk_frozen zac.out 0; have zaY := blk_frozen zac.out 1; have zaZ := blk_frozen zac.out 2; have za0 := blk_frozen zac.out 3; obtain ⟨Ao27, co27, eo27⟩ := Kd.R_slice zaa.out; subst eo27))
                      go_ret2
                      exact M.fin (M.up HB)
                    · rw [if_neg c22] at H
                      have c22b0 : decide ((wrap64 ((a0.size : Int) - ((rd_T34 l1 x12_1).f1))) < ((rd_T34 l1 x12_1).f2)) = false := decide_eq_false c22
                      clear c22
                      by_cases c28 : 0 ≤ ((rd_T34 l1 x12_1).f1)
                      · rw [if_pos c28] at H
                        have c28b0 := eq_true c28
                        have c28b1 : decide (0 ≤ ((rd_T34 l1 x12_1).f1)) = true := decide_eq_true c28
                        clear c28
                        by_cases c29 : ((rd_T34 l1 x12_1).f1) ≤ (wrap64 (((rd_T34 l1 x12_1).f1) + ((rd_T34 l1 x12_1).f2)))
                        · rw [if_pos c29] at H
                          have c29b0 := eq_true c29
                          have c29b1 : decide (((rd_T34 l1 x12_1).f1) ≤ (wrap64 (((rd_T34 l1 x12_1).f1) + ((rd_T34 l1 x12_1).f2)))) = true := decide_eq_true c29
                          by_cases c30 : (wrap64 (((rd_T34 l1 x12_1).f1) + ((rd_T34 l1 x12_1).f2))) ≤ (a0.size : Int)
                          · rw [if_pos c30] at H
                            have c30b0 := eq_true c30
                            have c30b1 : decide ((wrap64 (((rd_T34 l1 x12_1).f1) + ((rd_T34 l1 x12_1).f2))) ≤ (a0.size : Int)) = true := decide_eq_true c30
                            by_cases c31 : x6_1.length + (a0.extract (((rd_T34 l1 x12_1).f1) : Int).toNat ((wrap64 (((rd_T34 l1 x12_1).f1) + ((rd_T34 l1 x12_1).f2))) : Int).toNat).size < 140737488355328
                            · rw [if_pos c31] at H
                              have LMc31 := Aside0.mk c31
                              clear c31
                              obtain ⟨y205, hy205⟩ : ∃ y_ : List Int, y_ = (x6_1 ++ bytesOf (a0.extract (((rd_T34 l1 x12_1).f1) : Int).toNat ((wrap64 (((rd_T34 l1 x12_1).f1) + ((rd_T34 l1 x12_1).f2))) : Int).toNat)) := ⟨_, rfl⟩
                              replace H : (delta_Join_p.l0 k1 a0 y205 l1 (l1.length : Int) (wrap64 (x12_1 + 1))) = some (r1, r2) := by first | (rw [hy205]; with_reducible exact H) | (have H2_ := (Option.bind_some _ _).symm.trans H; rw [hy205]; with_reducible exact H2_) | (have H2_ := (Option.bind_some _ _).symm.trans H; with_reducible exact H2_) | with_reducible exact H | (rw [hy205]; exact H) | exact H
                              have Ny205 := Aside0.mk hy205
                              clear hy205
                              have H' := Aside0.mk H
                              clear H
                              have p199 : 0 ≤ (x12_1 : Int) := of_decide_eq_true (by first | (with_reducible assumption) | assumption)
                              have q199 : x12_1 < (l1.length : Int) := of_decide_eq_true (by first | (with_reducible assumption) | assumption)
                              obtain ⟨ad199, e199, hx199_0, hx199_1, hx199_2, hx199_3⟩ := at_T34 HR1.out x12_1 p199 q199
                              (try rw [← Nbq14.out] at hx199_0)
                              cases e199
                              replace hx199_0 := (HB.out.cell (World.block_lt_of_cell? w _ hx199_0)).trans hx199_0
                              replace hx199_1 := (HB.out.cell (World.block_lt_of_cell? w _ hx199_1)).trans hx199_1
                              replace hx199_2 := (HB.out.cell (World.block_lt_of_cell? w _ hx199_2)).trans hx199_2
                              replace hx199_3 := (HB.out.cell (World.block_lt_of_cell? w _ hx199_3)).trans hx199_3
                              replace p199 := eq_true p199
                              replace q199 := eq_true q199
                              go_wp2_with (first | ((with_reducible refine gate_dst (N := 8) rfl ?_); (try (refine gate_guard (by rfl) ?_; dsimp only)); refine box_event ?hg (N := 8) ?hd (cs := #[.bool false, .int .i64 0, .int .i64 0, .string (⟨#[]⟩ : ByteArray)]) (t := 34) ?hr ?_; (case hd => rfl); (case hg => rfl); (case hr => first | (go_simp; done) | (go_simp; rfl)); intro zab hg w32 hbox hb; have n0_ := M.roB zaa hb; have n1_ := M.upS HB hb; have n2_ := Aside0.mk (hbox); have n3_ := M.upG HB hg; have n4_ := M.upG HB hg; clear zaa HB; have zaa := n0_; have HB := n1_; have zac := n2_; have zad := n3_; have zae := n4_; clear n0_ n1_ n2_ n3_ n4_; clear hb hbox hg; have za1 : w32.cell? ⟨zab, 0, none⟩ = some (.bool false) := (blk_cell zac.out 0).trans rfl; have za2 : w32.cell? ⟨zab, 1, none⟩ = some (.int .i64 0) := (blk_cell zac.out 1).trans rfl; have za3 : w32.cell? ⟨zab, 2, none⟩ = some (.int .i64 0) := (blk_cell zac.out 2).trans rfl; have za4 : w32.cell? ⟨zab, 3, none⟩ = some (.string (⟨#[]⟩ : ByteArray)) := (blk_cell zac.out 3).trans rfl; have za5 := blk_frozen zac.out 0; have za6 := blk_frozen zac.out 1; have za7 := blk_frozen zac.out 2; have za8 := blk_frozen zac.out 3) | ((with_reducible refine gate_callee (f := 14) rfl ?_); refine M.goes (some 17) Try.func14 #[.agg #[.bool true, .int .i64 ((rd_T34 l1 x12_1).f1), .int .i64 ((rd_T34 l1 x12_1).f2), .string ((rd_T34 l1 x12_1).f3)]] rfl ?_; (with_reducible refine (delta_Check.calls true ((rd_T34 l1 x12_1).f1) ((rd_T34 l1 x12_1).f2) ((rd_T34 l1 x12_1).f3) t201 _ (by first | exact A6.out | (have q_ := A6.out; rw [← Nbq14.out] at q_; exact q_))).mono ?_); rintro e w34 ⟨rfl, hb⟩; refine ⟨_, rfl, ?_⟩; have n0_ := Aside0.mk (Kd.R_below (by (with_reducible repeat (first | apply Kd.R_alloc | apply Kd.R_drewN | apply Kd.R_drew)); exact (Kd.R_mono (Kd.R_far (p := ⟨zab, 3, none⟩) (Kd.R_far (p := ⟨zab, 2, none⟩) (Kd.R_far (p := ⟨zab, 1, none⟩) (Kd.R_far (p := ⟨zab, 0, none⟩) (Kd.R_types zaa.out zac.out (by decide)) (fun _ hk => hk.2) (.bool true)) (fun _ hk => hk.2) (.int .i64 ((rd_T34 l1 x12_1).f1))) (fun _ hk => hk.2) (.int .i64 ((rd_T34 l1 x12_1).f2))) (fun _ hk => hk.2) (.string ((rd_T34 l1 x12_1).f3))) (fun _ h_ => h_.1))) hb); have n1_ := Aside0.mk (blk_below (g := zab) (o := .cells #[.bool true, .int .i64 ((rd_T34 l1 x12_1).f1), .int .i64 ((rd_T34 l1 x12_1).f2), .string ((rd_T34 l1 x12_1).f3)] 34 (0, 0)) (by (with_reducible repeat (first | refine blk_drewN ?_ _ | refine blk_drew ?_ | refine blk_alloc ?_ _)); refine blk_put (cs := #[.bool true, .int .i64 ((rd_T34 l1 x12_1).f1), .int .i64 ((rd_T34 l1 x12_1).f2), .string (⟨#[]⟩ : ByteArray)]) ?_ 3 _ rfl; (with_reducible repeat (first | refine blk_drewN ?_ _ | refine blk_drew ?_ | refine blk_alloc ?_ _)); refine blk_put (cs := #[.bool true, .int .i64 ((rd_T34 l1 x12_1).f1), .int .i64 0, .string (⟨#[]⟩ : ByteArray)]) ?_ 2 _ rfl; (with_reducible repeat (first | refine blk_drewN ?_ _ | refine blk_drew ?_ | refine blk_alloc ?_ _)); refine blk_put (cs := #[.bool true, .int .i64 0, .int .i64 0, .string (⟨#[]⟩ : ByteArray)]) ?_ 1 _ rfl; (with_reducible repeat (first | refine blk_drewN ?_ _ | refine blk_drew ?_ | refine blk_alloc ?_ _)); refine blk_put (cs := #[.bool false, .int .i64 0, .int .i64 0, .string (⟨#[]⟩ : ByteArray)]) ?_ 0 _ rfl; (with_reducible repeat (first | refine blk_drewN ?_ _ | refine blk_drew ?_ | refine blk_alloc ?_ _)); exact zac.out) hb); have n2_ := M.upS HB hb; clear zaa zac HB; have zaa := n0_; have zac := n1_; have HB := n2_; clear n0_ n1_ n2_; (try clear hb); have za9 : w34.cell? ⟨zab, 0, none⟩ = some (.bool true) := (blk_cell zac.out 0).trans rfl; have zba : w34.cell? ⟨zab, 1, none⟩ = some (.int .i64 ((rd_T34 l1 x12_1).f1)) := (blk_cell zac.out 1).trans rfl; have zbb : w34.cell? ⟨zab, 2, none⟩ = some (.int .i64 ((rd_T34 l1 x12_1).f2)) := (blk_cell zac.out 2).trans rfl; have zbc : w34.cell? ⟨zab, 3, none⟩ = some (.string ((rd_T34 l1 x12_1).f3)) := (blk_cell zac.out 3).trans rfl; have zbd := blk_frozen zac.out 0; have zbe := blk_frozen zac.out 1; have zbf := blk_frozen zac.out 2; have zbg := blk_frozen zac.out 3; obtain ⟨Ao36, co36, eo36⟩ := Kd.R_slice zaa.out; subst eo36) | (at_builtin; refine print_append_str (w0 := w) w.heap.size rfl (.tmp 49) _ 54 9 5 rfl Try.underlying54 Try.underlying9 info5 (.slice Ao36 x6_1.length co36) x6_1 (a0.extract (((rd_T34 l1 x12_1).f1) : Int).toNat ((wrap64 (((rd_T34 l1 x12_1).f1) + ((rd_T34 l1 x12_1).f2))) : Int).toNat) rfl rfl ?aO ?aB ?aS ?aL ?_; (case aB => exact (M.up HB)); (case aO => exact (Kd.own_of_R (M.ro zaa))); (case aS => exact (below_size (M.up HB))); (case aL => have := LMc31.out; omega); intro v206 w37 ho0 hb hg; have ho := Kd.R_of_own (h1 := fun _ => rfl) (ok := fun _ => True) ho0 (fun _ _ => trivial); clear ho0; have hat := True.intro; rw [← Ny205.out] at ho; change Kd.R (Kd.int .u8) 5 w37 w.heap.size (fun _ => True) v206 y205 at ho; have n0_ := Aside0.mk (blk_grown (g := zab) (o := .cells #[.bool true, .int .i64 ((rd_T34 l1 x12_1).f1), .int .i64 ((rd_T34 l1 x12_1).f2), .string ((rd_T34 l1 x12_1).f3)] 34 (0, 0)) (M.bk zac) hg (Kd.R_ne zaa.out zac.out (by decide))); have n1_ := Aside0.mk (hb); have n2_ := Aside0.mk (ho); clear zac HB zaa; have zac := n0_; have HB := n1_; have HO207 := n2_; clear n0_ n1_ n2_; clear ho hb hg hat))
                              go_roundg k1
                              case measure => have := HK1.out; omega
                              case rel => exact ⟨(y205), (wrap64 (x12_1 + 1)), (by first | rfl | (simp; done) | (simp [*]; done) | (simp [M.isEmpty_bne]; done)), H', ⟨by have := HK1.out; omega⟩, ⟨by (with_reducible repeat (first | apply Kd.R_alloc | apply Kd.R_drewN | apply Kd.R_drew)); exact HO207.out⟩, ⟨M.up HB⟩⟩
                            · rw [if_neg c31] at H
                              exact absurd H (by simp)
                          · rw [if_neg c30] at H
                            exact absurd H (by simp)
                        · rw [if_neg c29] at H
                          exact absurd H (by simp)
                      · rw [if_neg c28] at H
                        exact absurd H (by simp)
                · replace c15 := Bool.eq_false_iff.mpr c15
                  subst c15
                  have H1 : (if x6_1.length + ((rd_T34 l1 x12_1).f3).size < 140737488355328 then (delta_Join_p.l0 k1 a0 (x6_1 ++ bytesOf ((rd_T34 l1 x12_1).f3)) l1 (l1.length : Int) (wrap64 (x12_1 + 1))) else (none)) = some (r1, r2) := by rw [if_neg (show ¬ (false = true) by decide)] at H; exact H
                  clear H
                  have H := H1
                  clear H1
                  by_cases c38 : x6_1.length + ((rd_T34 l1 x12_1).f3).size < 140737488355328
                  · rw [if_pos c38] at H
                    have LMc38 := Aside0.mk c38
                    clear c38
                    obtain ⟨y202, hy202⟩ : ∃ y_ : List Int, y_ = (x6_1 ++ bytesOf ((rd_T34 l1 x12_1).f3)) := ⟨_, rfl⟩
                    replace H : (delta_Join_p.l0 k1 a0 y202 l1 (l1.length : Int) (wrap64 (x12_1 + 1))) = some (r1, r2) := by first | (rw [hy202]; with_reducible exact H) | (have H2_ := (Option.bind_some _ _).symm.trans H; rw [hy202]; with_reducible exact H2_) | (have H2_ := (Option.bind_some _ _).symm.trans H; with_reducible exact H2_) | with_reducible exact H | (rw [hy202]; exact H) | exact H
                    have Ny202 := Aside0.mk hy202
                    clear hy202
                    have H' := Aside0.mk H
                    clear H
                    have p199 : 0 ≤ (x12_1 : Int) := of_decide_eq_true (by first | (with_reducible assumption) | assumption)
                    have q199 : x12_1 < (l1.length : Int) := of_decide_eq_true (by first | (with_reducible assumption) | assumption)
                    obtain ⟨ad199, e199, hx199_0, hx199_1, hx199_2, hx199_3⟩ := at_T34 HR1.out x12_1 p199 q199
                    (try rw [← Nbq14.out] at hx199_0)
                    cases e199
                    replace hx199_0 := (HB.out.cell (World.block_lt_of_cell? w _ hx199_0)).trans hx199_0
                    replace hx199_1 := (HB.out.cell (World.block_lt_of_cell? w _ hx199_1)).trans hx199_1
                    replace hx199_2 := (HB.out.cell (World.block_lt_of_cell? w _ hx199_2)).trans hx199_2
                    replace hx199_3 := (HB.out.cell (World.block_lt_of_cell? w _ hx199_3)).trans hx199_3
                    replace p199 := eq_true p199
                    replace q199 := eq_true q199
                    go_wp2_with (first | ((with_reducible refine gate_dst (N := 8) rfl ?_); (try (refine gate_guard (by rfl) ?_; dsimp only)); refine box_event ?hg (N := 8) ?hd (cs := #[.bool false, .int .i64 0, .int .i64 0, .string (⟨#[]⟩ : ByteArray)]) (t := 34) ?hr ?_; (case hd => rfl); (case hg => rfl); (case hr => first | (go_simp; done) | (go_simp; rfl)); intro zab hg w39 hbox hb; have n0_ := M.roB zaa hb; have n1_ := M.upS HB hb; have n2_ := Aside0.mk (hbox); have n3_ := M.upG HB hg; have n4_ := M.upG HB hg; clear zaa HB; have zaa := n0_; have HB := n1_; have zac := n2_; have zad := n3_; have zae := n4_; clear n0_ n1_ n2_ n3_ n4_; clear hb hbox hg; have zbh : w39.cell? ⟨zab, 0, none⟩ = some (.bool false) := (blk_cell zac.out 0).trans rfl; have zbi : w39.cell? ⟨zab, 1, none⟩ = some (.int .i64 0) := (blk_cell zac.out 1).trans rfl; have zbj : w39.cell? ⟨zab, 2, none⟩ = some (.int .i64 0) := (blk_cell zac.out 2).trans rfl; have zbk : w39.cell? ⟨zab, 3, none⟩ = some (.string (⟨#[]⟩ : ByteArray)) := (blk_cell zac.out 3).trans rfl; have zbl := blk_frozen zac.out 0; have zbm := blk_frozen zac.out 1; have zbn := blk_frozen zac.out 2; have zbo := blk_frozen zac.out 3) | ((with_reducible refine gate_callee (f := 14) rfl ?_); refine M.goes (some 17) Try.func14 #[.agg #[.bool false, .int .i64 ((rd_T34 l1 x12_1).f1), .int .i64 ((rd_T34 l1 x12_1).f2), .string ((rd_T34 l1 x12_1).f3)]] rfl ?_; (with_reducible refine (delta_Check.calls false ((rd_T34 l1 x12_1).f1) ((rd_T34 l1 x12_1).f2) ((rd_T34 l1 x12_1).f3) t201 _ (by first | exact A6.out | (have q_ := A6.out; rw [← Nbq14.out] at q_; exact q_))).mono ?_); rintro e w41 ⟨rfl, hb⟩; refine ⟨_, rfl, ?_⟩; have n0_ := Aside0.mk (Kd.R_below (by (with_reducible repeat (first | apply Kd.R_alloc | apply Kd.R_drewN | apply Kd.R_drew)); exact (Kd.R_mono (Kd.R_far (p := ⟨zab, 3, none⟩) (Kd.R_far (p := ⟨zab, 2, none⟩) (Kd.R_far (p := ⟨zab, 1, none⟩) (Kd.R_far (p := ⟨zab, 0, none⟩) (Kd.R_types zaa.out zac.out (by decide)) (fun _ hk => hk.2) (.bool false)) (fun _ hk => hk.2) (.int .i64 ((rd_T34 l1 x12_1).f1))) (fun _ hk => hk.2) (.int .i64 ((rd_T34 l1 x12_1).f2))) (fun _ hk => hk.2) (.string ((rd_T34 l1 x12_1).f3))) (fun _ h_ => h_.1))) hb); have n1_ := Aside0.mk (blk_below (g := zab) (o := .cells #[.bool false, .int .i64 ((rd_T34 l1 x12_1).f1), .int .i64 ((rd_T34 l1 x12_1).f2), .string ((rd_T34 l1 x12_1).f3)] 34 (0, 0)) (by (with_reducible repeat (first | refine blk_drewN ?_ _ | refine blk_drew ?_ | refine blk_alloc ?_ _)); refine blk_put (cs := #[.bool false, .int .i64 ((rd_T34 l1 x12_1).f1), .int .i64 ((rd_T34 l1 x12_1).f2), .string (⟨#[]⟩ : ByteArray)]) ?_ 3 _ rfl; (with_reducible repeat (first | refine blk_drewN ?_ _ | refine blk_drew ?_ | refine blk_alloc ?_ _)); refine blk_put (cs := #[.bool false, .int .i64 ((rd_T34 l1 x12_1).f1), .int .i64 0, .string (⟨#[]⟩ : ByteArray)]) ?_ 2 _ rfl; (with_reducible repeat (first | refine blk_drewN ?_ _ | refine blk_drew ?_ | refine blk_alloc ?_ _)); refine blk_put (cs := #[.bool false, .int .i64 0, .int .i64 0, .string (⟨#[]⟩ : ByteArray)]) ?_ 1 _ rfl; (with_reducible repeat (first | refine blk_drewN ?_ _ | refine blk_drew ?_ | refine blk_alloc ?_ _)); refine blk_put (cs := #[.bool false, .int .i64 0, .int .i64 0, .string (⟨#[]⟩ : ByteArray)]) ?_ 0 _ rfl; (with_reducible repeat (first | refine blk_drewN ?_ _ | refine blk_drew ?_ | refine blk_alloc ?_ _)); exact zac.out) hb); have n2_ := M.upS HB hb; clear zaa zac HB; have zaa := n0_; have zac := n1_; have HB := n2_; clear n0_ n1_ n2_; (try clear hb); have zbp : w41.cell? ⟨zab, 0, none⟩ = some (.bool false) := (blk_cell zac.out 0).trans rfl; have zbq : w41.cell? ⟨zab, 1, none⟩ = some (.int .i64 ((rd_T34 l1 x12_1).f1)) := (blk_cell zac.out 1).trans rfl; have zbr : w41.cell? ⟨zab, 2, none⟩ = some (.int .i64 ((rd_T34 l1 x12_1).f2)) := (blk_cell zac.out 2).trans rfl; have zbs : w41.cell? ⟨zab, 3, none⟩ = some (.string ((rd_T34 l1 x12_1).f3)) := (blk_cell zac.out 3).trans rfl; have zbt := blk_frozen zac.out 0; have zbu := blk_frozen zac.out 1; have zbv := blk_frozen zac.out 2; have zbw := blk_frozen zac.out 3; obtain ⟨Ao43, co43, eo43⟩ := Kd.R_slice zaa.out; subst eo43) | (at_builtin; refine print_append_str (w0 := w) w.heap.size rfl (.tmp 30) _ 54 9 5 rfl Try.underlying54 Try.underlying9 info5 (.slice Ao43 x6_1.length co43) x6_1 ((rd_T34 l1 x12_1).f3) rfl rfl ?aO ?aB ?aS ?aL ?_; (case aB => exact (M.up HB)); (case aO => exact (Kd.own_of_R (M.ro zaa))); (case aS => exact (below_size (M.up HB))); (case aL => have := LMc38.out; omega); intro v203 w44 ho0 hb hg; have ho := Kd.R_of_own (h1 := fun _ => rfl) (ok := fun _ => True) ho0 (fun _ _ => trivial); clear ho0; have hat := True.intro; rw [← Ny202.out] at ho; change Kd.R (Kd.int .u8) 5 w44 w.heap.size (fun _ => True) v203 y202 at ho; have n0_ := Aside0.mk (blk_grown (g := zab) (o := .cells #[.bool false, .int .i64 ((rd_T34 l1 x12_1).f1), .int .i64 ((rd_T34 l1 x12_1).f2), .string ((rd_T34 l1 x12_1).f3)] 34 (0, 0)) (M.bk zac) hg (Kd.R_ne zaa.out zac.out (by decide))); have n1_ := Aside0.mk (hb); have n2_ := Aside0.mk (ho); clear zac HB zaa; have zac := n0_; have HB := n1_; have HO204 := n2_; clear n0_ n1_ n2_; clear ho hb hg hat))
                    go_roundg k1
                    case measure => have := HK1.out; omega
                    case rel => exact ⟨(y202), (wrap64 (x12_1 + 1)), (by first | rfl | (simp; done) | (simp [*]; done) | (simp [M.isEmpty_bne]; done)), H', ⟨by have := HK1.out; omega⟩, ⟨by (with_reducible repeat (first | apply Kd.R_alloc | apply Kd.R_drewN | apply Kd.R_drew)); exact HO204.out⟩, ⟨M.up HB⟩⟩
                  · rw [if_neg c38] at H
                    exact absurd H (by simp)
            · rw [if_neg c7] at H
              have c7b0 : (t201 == 0) = false := beq_eq_false_iff_ne.mpr c7
              have c7b1 : (t201 != 0) = true := bne_iff_ne.mpr c7
              simp only [Option.some.injEq, Prod.mk.injEq] at H
              obtain ⟨rfl, rfl⟩ := H
              have p199 : 0 ≤ (x12_1 : Int) := of_decide_eq_true (by first | (with_reducible assumption) | assumption)
              have q199 : x12_1 < (l1.length : Int) := of_decide_eq_true (by first | (with_reducible assumption) | assumption)
              obtain ⟨ad199, e199, hx199_0, hx199_1, hx199_2, hx199_3⟩ := at_T34 HR1.out x12_1 p199 q199
              cases e199
              replace hx199_0 := (HB.out.cell (World.block_lt_of_cell? w _ hx199_0)).trans hx199_0
              replace hx199_1 := (HB.out.cell (World.block_lt_of_cell? w _ hx199_1)).trans hx199_1
              replace hx199_2 := (HB.out.cell (World.block_lt_of_cell? w _ hx199_2)).trans hx199_2
              replace hx199_3 := (HB.out.cell (World.block_lt_of_cell? w _ hx199_3)).trans hx199_3
              replace p199 := eq_true p199
              replace q199 := eq_true q199
              go_wp2_with (first | ((with_reducible refine gate_dst (N := 8) rfl ?_); (try (refine gate_guard (by rfl) ?_; dsimp only)); refine box_event ?hg (N := 8) ?hd (cs := #[.bool false, .int .i64 0, .int .i64 0, .string (⟨#[]⟩ : ByteArray)]) (t := 34) ?hr ?_; (case hd => rfl); (case hg => rfl); (case hr => first | (go_simp; done) | (go_simp; rfl)); intro zab hg w45 hbox hb; have n0_ := M.roB zaa hb; have n1_ := M.upS HB hb; have n2_ := Aside0.mk (hbox); have n3_ := M.upG HB hg; have n4_ := M.upG HB hg; clear zaa HB; have zaa := n0_; have HB := n1_; have zac := n2_; have zad := n3_; have zae := n4_; clear n0_ n1_ n2_ n3_ n4_; clear hb hbox hg; have zbx : w45.cell? ⟨zab, 0, none⟩ = some (.bool false) := (blk_cell zac.out 0).trans rfl; have zby : w45.cell? ⟨zab, 1, none⟩ = some (.int .i64 0) := (blk_cell zac.out 1).trans rfl; have zbz : w45.cell? ⟨zab, 2, none⟩ = some (.int .i64 0) := (blk_cell zac.out 2).trans rfl; have zbA : w45.cell? ⟨zab, 3, none⟩ = some (.string (⟨#[]⟩ : ByteArray)) := (blk_cell zac.out 3).trans rfl; have zbB := blk_frozen zac.out 0; have zbC := blk_frozen zac.out 1; have zbD := blk_frozen zac.out 2; have zbE := blk_frozen zac.out 3) | ((with_reducible refine gate_callee (f := 14) rfl ?_); refine M.goes (some 17) Try.func14 #[.agg #[.bool ((rd_T34 l1 x12_1).f0), .int .i64 ((rd_T34 l1 x12_1).f1), .int .i64 ((rd_T34 l1 x12_1).f2), .string ((rd_T34 l1 x12_1).f3)]] rfl ?_; (with_reducible refine (delta_Check.calls ((rd_T34 l1 x12_1).f0) ((rd_T34 l1 x12_1).f1) ((rd_T34 l1 x12_1).f2) ((rd_T34 l1 x12_1).f3) t201 _ A6.out).mono ?_); rintro e w47 ⟨rfl, hb⟩; refine ⟨_, rfl, ?_⟩; have n0_ := Aside0.mk (Kd.R_below (by (with_reducible repeat (first | apply Kd.R_alloc | apply Kd.R_drewN | apply Kd.R_drew)); exact (Kd.R_mono (Kd.R_far (p := ⟨zab, 3, none⟩) (Kd.R_far (p := ⟨zab, 2, none⟩) (Kd.R_far (p := ⟨zab, 1, none⟩) (Kd.R_far (p := ⟨zab, 0, none⟩) (Kd.R_types zaa.out zac.out (by decide)) (fun _ hk => hk.2) (.bool ((rd_T34 l1 x12_1).f0))) (fun _ hk => hk.2) (.int .i64 ((rd_T34 l1 x12_1).f1))) (fun _ hk => hk.2) (.int .i64 ((rd_T34 l1 x12_1).f2))) (fun _ hk => hk.2) (.string ((rd_T34 l1 x12_1).f3))) (fun _ h_ => h_.1))) hb); have n1_ := Aside0.mk (blk_below (g := zab) (o := .cells #[.bool ((rd_T34 l1 x12_1).f0), .int .i64 ((rd_T34 l1 x12_1).f1), .int .i64 ((rd_T34 l1 x12_1).f2), .string ((rd_T34 l1 x12_1).f3)] 34 (0, 0)) (by (with_reducible repeat (first | refine blk_drewN ?_ _ | refine blk_drew ?_ | refine blk_alloc ?_ _)); refine blk_put (cs := #[.bool ((rd_T34 l1 x12_1).f0), .int .i64 ((rd_T34 l1 x12_1).f1), .int .i64 ((rd_T34 l1 x12_1).f2), .string (⟨#[]⟩ : ByteArray)]) ?_ 3 _ rfl; (with_reducible repeat (first | refine blk_drewN ?_ _ | refine blk_drew ?_ | refine blk_alloc ?_ _)); refine blk_put (cs := #[.bool ((rd_T34 l1 x12_1).f0), .int .i64 ((rd_T34 l1 x12_1).f1), .int .i64 0, .string (⟨#[]⟩ : ByteArray)]) ?_ 2 _ rfl; (with_reducible repeat (first | refine blk_drewN ?_ _ | refine blk_drew ?_ | refine blk_alloc ?_ _)); refine blk_put (cs := #[.bool ((rd_T34 l1 x12_1).f0), .int .i64 0, .int .i64 0, .string (⟨#[]⟩ : ByteArray)]) ?_ 1 _ rfl; (with_reducible repeat (first | refine blk_drewN ?_ _ | refine blk_drew ?_ | refine blk_alloc ?_ _)); refine blk_put (cs := #[.bool false, .int .i64 0, .int .i64 0, .string (⟨#[]⟩ : ByteArray)]) ?_ 0 _ rfl; (with_reducible repeat (first | refine blk_drewN ?_ _ | refine blk_drew ?_ | refine blk_alloc ?_ _)); exact zac.out) hb); have n2_ := M.upS HB hb; clear zaa zac HB; have zaa := n0_; have zac := n1_; have HB := n2_; clear n0_ n1_ n2_; (try clear hb)))
              go_ret2
              exact M.fin (M.up HB)
          · rw [if_neg c5] at H
            exact absurd H (by simp)
        · rw [if_neg c4] at H
          exact absurd H (by simp)
      · rw [if_neg c3] at H
        have c3b0 : decide (x12_1 < (l1.length : Int)) = false := decide_eq_false c3
        clear c3
        simp only [Option.some.injEq, Prod.mk.injEq] at H
        obtain ⟨rfl, rfl⟩ := H
        have hcv48 := own_string (P := Try.prog) Try.underlying54 Try.underlying5 Try.underlying9 (Kd.own_of_R zaa.out)
        go_wp2
        go_ret2
        exact M.fin (M.up HB)

-- this session's own plain form
def delta_Join.pc (x : S34) : M.Pc := (x.f0, x.f1, x.f2, x.f3)
def delta_Join.f (base : ByteArray) (l : List S34) : Option (ByteArray × Int) :=
  if base.size ≤ 1000000000 ∧ l.length ≤ 1000000000 then some (M.sb (M.djoin base [] (l.map delta_Join.pc)).1, (M.djoin base [] (l.map delta_Join.pc)).2) else none
theorem delta_Join.app (a b : ByteArray) : bytesOf (a ++ b) = bytesOf a ++ bytesOf b := by
  have : M.bs (a ++ b) = M.bs a ++ M.bs b := M.bs_append a b
  unfold bytesOf
  rw [show (a ++ b).data.toList = a.data.toList ++ b.data.toList from this, List.map_append]
theorem delta_Join.back (s : ByteArray) : strOfNums (bytesOf s) = s := by
  apply M.bs_inj
  have h := M.strOfNums_nat ((M.bs s).map UInt8.toNat)
  rw [List.map_map] at h
  have e : bytesOf s = List.map ((fun (n : Nat) => (n : Int)) ∘ UInt8.toNat) (M.bs s) := rfl
  rw [e, h, List.map_map]
  have e2 : (UInt8.ofNat ∘ UInt8.toNat) = (id : UInt8 → UInt8) := by funext x; simp
  rw [e2, List.map_id]
theorem delta_Join.cut (base : ByteArray) (a n : Int) (ha : 0 ≤ a) (hn : 0 ≤ n) : M.bs (base.extract a.toNat (a + n).toNat) = ((M.bs base).drop a.toNat).take n.toNat := by
  rw [M.bs_extract]; congr 1; omega
theorem delta_Join.loop (base : ByteArray) (l : List S34) (hb : base.size ≤ 1000000000) (hc : l.length ≤ 1000000000) (d : Nat) : ∀ (i : Nat) (acc : ByteArray), i + d = l.length → acc.size ≤ 65536 →
    delta_Join_p.l0 (d + 1) base (bytesOf acc) l (l.length : Int) (i : Int) = some (M.sb (M.djoin base (M.bs acc) ((l.drop i).map delta_Join.pc)).1, (M.djoin base (M.bs acc) ((l.drop i).map delta_Join.pc)).2) := by
  induction d with
  | zero =>
    intro i acc hi _
    rw [delta_Join_p.l0, if_neg (by omega), List.drop_of_length_le (by omega)]
    rw [List.map_nil, M.djoin, M.sb_bs, delta_Join.back]
  | succ d ih =>
    intro i acc hi hz
    have hlt : i < l.length := by omega
    have hrd : rd_T34 l (i : Int) = l[i] := by simp [rd_T34, List.getD, hlt]
    rw [delta_Join_p.l0, if_pos (by omega), if_pos (by omega), if_pos (by omega), hrd]
    rw [List.drop_eq_getElem_cons hlt, List.map_cons]
    have ih := ih (i + 1)
    rw [show ((i + 1 : Nat) : Int) = (i : Int) + 1 from by omega] at ih
    rw [M.wrap64_id (i := (i : Int) + 1) (by omega) (by omega)]
    generalize l[i] = x
    obtain ⟨c, a, n, o⟩ := x
    show (delta_Check.f c a n o).bind _ = _
    rw [delta_Check.f, Option.bind_some]
    by_cases hp : M.pok c a n o = true
    · have hk : M.pk (delta_Join.pc ⟨c, a, n, o⟩) = true := hp
      have hl := M.pok_len hp
      rw [if_pos hp, if_pos rfl, M.djoin, if_pos hk, M.bs_length, bytesOf_length]
      show (if n > wrap64 (65536 - (acc.size : Int)) then _ else _) = some (M.sb (if (acc.size : Int) + n > 65536 then ([], 5) else if c = true then (if a + n > (base.size : Int) then ([], 8) else M.djoin base (M.bs acc ++ ((M.bs base).drop a.toNat).take n.toNat) _) else M.djoin base (M.bs acc ++ M.bs o) _).1, (if (acc.size : Int) + n > 65536 then ([], 5) else if c = true then (if a + n > (base.size : Int) then ([], 8) else M.djoin base (M.bs acc ++ ((M.bs base).drop a.toNat).take n.toNat) _) else M.djoin base (M.bs acc ++ M.bs o) _).2)
      rw [M.wrap64_id (i := 65536 - (acc.size : Int)) (by omega) (by omega)]
      by_cases h5 : (acc.size : Int) + n > 65536
      · rw [if_pos (show n > 65536 - (acc.size : Int) by omega)]; simp only [if_pos h5]; rfl
      · rw [if_neg (show ¬ n > 65536 - (acc.size : Int) by omega)]
        simp only [if_neg h5]
        cases c with
        | true =>
          have hc2 := M.pok_copy hp
          rw [if_pos rfl]
          simp only [if_true]
          show (if a > (base.size : Int) then _ else if n > wrap64 ((base.size : Int) - a) then _ else if 0 ≤ a then (if a ≤ wrap64 (a + n) then (if wrap64 (a + n) ≤ (base.size : Int) then (if acc.size + (base.extract a.toNat (wrap64 (a + n)).toNat).size < 140737488355328 then delta_Join_p.l0 (d + 1) base (bytesOf acc ++ bytesOf (base.extract a.toNat (wrap64 (a + n)).toNat)) l (l.length : Int) ((i : Int) + 1) else none) else none) else none) else none) = _
          rw [M.wrap64_id (i := a + n) (by omega) (by omega)]
          by_cases h7 : a > (base.size : Int)
          · rw [if_pos h7]; simp only [if_pos (show a + n > (base.size : Int) by omega)]; rfl
          · rw [if_neg h7, M.wrap64_id (i := (base.size : Int) - a) (by omega) (by omega)]
            by_cases h8 : a + n > (base.size : Int)
            · rw [if_pos (show n > (base.size : Int) - a by omega)]; simp only [if_pos h8]; rfl
            · have hsz : (base.extract a.toNat (a + n).toNat).size = n.toNat := by rw [ByteArray.size_extract]; omega
              rw [if_neg (show ¬ n > (base.size : Int) - a by omega), if_pos hc2.2.2.1, if_pos (by omega), if_pos (by omega), if_pos (by rw [hsz]; omega), ← delta_Join.app, ih _ (by omega) (by rw [M.size_append, hsz]; omega), M.bs_append, delta_Join.cut base a n (by omega) (by omega)]
              simp only [if_neg h8]
        | false =>
          have hc2 := M.pok_own hp
          rw [if_neg (show ¬ false = true by simp)]
          simp only [Bool.false_eq_true, if_false]
          show (if acc.size + o.size < 140737488355328 then delta_Join_p.l0 (d + 1) base (bytesOf acc ++ bytesOf o) l (l.length : Int) ((i : Int) + 1) else none) = _
          rw [if_pos (by omega), ← delta_Join.app, ih _ (by omega) (by rw [M.size_append]; omega), M.bs_append]
    · rw [if_neg hp, if_neg (by decide), M.djoin, if_neg (show ¬ M.pk (delta_Join.pc ⟨c, a, n, o⟩) = true from hp)]
      rfl
theorem delta_Join.ev (base : ByteArray) (l : List S34) (r : ByteArray × Int) (h : delta_Join.f base l = some r) : ∃ k, delta_Join_p.f k base l = some r := by
  unfold delta_Join.f at h
  split at h
  case isFalse => cases h
  case isTrue hh =>
    have := delta_Join.loop base l hh.1 hh.2 l.length 0 ⟨#[]⟩ (by omega) (by decide)
    rw [List.drop_zero, show bytesOf (⟨#[]⟩ : ByteArray) = [] from rfl] at this
    refine ⟨l.length + 1, ?_⟩
    unfold delta_Join_p.f
    rw [show (0 : Int) = ((0 : Nat) : Int) from rfl, this, ← h]
    rfl
theorem delta_Join.calls (a0 : ByteArray) (A1 : Option Addr) (c1 : Nat) (l1 : List (S34)) (r1 : ByteArray) (r2 : Int) (w : World) (hr1 : Kd.C k34 w A1 l1.length l1) (hc1 : l1.length ≤ c1) (h : delta_Join.f a0 l1 = some (r1, r2)) :
    Calls Try.prog 17 #[.string a0, .slice A1 l1.length c1] w fun e w' => e = .returned (.tuple #[.string r1, .int .i64 r2]) ∧ Below w.heap.size w w' := by
  obtain ⟨k, hk⟩ := delta_Join.ev _ _ _ h
  exact delta_Join_p.calls (k := k) (w := w) (h := hk) (hr1 := hr1) (hc1 := hc1)

/-! ### delta_Apply: function 21 -/
def delta_Apply.f (a0 : ByteArray) (a1 : ByteArray) : Option (ByteArray × Int) := (delta_Take.f a1).bind fun bt208 => (if bt208.2 = 0 then ((delta_Join.f a0 bt208.1).bind fun bt212 => (some (bt212.1, bt212.2))) else (some ((⟨#[]⟩ : ByteArray), bt208.2)))
set_option maxHeartbeats 8000000 in
set_option maxRecDepth 100000 in
theorem delta_Apply.calls (a0 : ByteArray) (a1 : ByteArray) (r1 : ByteArray) (r2 : Int) (w : World) (h : delta_Apply.f a0 a1 = some (r1, r2)) :
    Calls Try.prog 21 #[.string a0, .string a1] w fun e w' => e = .returned (.tuple #[.string r1, .int .i64 r2]) ∧ Below w.heap.size w w' := by
  have HB := Aside0.mk (Below.refl w.heap.size w)
  have H : ((delta_Take.f a1).bind fun bt208 => (if bt208.2 = 0 then ((delta_Join.f a0 bt208.1).bind fun bt212 => (some (bt212.1, bt212.2))) else (some ((⟨#[]⟩ : ByteArray), bt208.2)))) = some (r1, r2) := h
  clear h
  replace H := Option.bind_eq_some_iff.mp H
  obtain ⟨⟨t208, t209⟩, A30, H⟩ := H
  replace H : (if t209 = 0 then ((delta_Join.f a0 t208).bind fun bt212 => (some (bt212.1, bt212.2))) else (some ((⟨#[]⟩ : ByteArray), t209))) = some (r1, r2) := H
  have A3 := Aside0.mk A30
  clear A30
  by_cases c4 : t209 = 0
  · rw [if_pos c4] at H
    have c4b0 : (t209 == 0) = true := beq_iff_eq.mpr c4
    have c4b1 : (t209 != 0) = false := bne_eq_false_iff_eq.mpr c4
    clear c4
    replace H := Option.bind_eq_some_iff.mp H
    obtain ⟨⟨t212, t213⟩, A50, H⟩ := H
    replace H : (some (t212, t213)) = some (r1, r2) := H
    have A5 := Aside0.mk A50
    clear A50
    simp only [Option.some.injEq, Prod.mk.injEq] at H
    obtain ⟨rfl, rfl⟩ := H
    go_enter Try.func21, Try.ntmps21
    go_wp2_with (first | ((with_reducible refine gate_callee (f := 19) rfl ?_); refine M.goes (some 10) Try.func19 #[.string a1] rfl ?_; (with_reducible refine (delta_Take.calls a1 t208 t209 _ A3.out).mono ?_); rintro e w6 ⟨v210, rfl, ho0, hb⟩; refine ⟨_, rfl, ?_⟩; have n0_ := Aside0.mk (Kd.R_lower ho0 (below_size (M.up HB))); have n1_ := M.upS HB hb; clear HB; have HO211 := n0_; have HB := n1_; clear n0_ n1_; (try clear hb); (try clear ho0); obtain ⟨Ao7, co7, eo7⟩ := Kd.R_slice HO211.out; subst eo7) | ((with_reducible refine gate_callee (f := 17) rfl ?_); refine M.goes (some 18) Try.func17 #[.string a0, .slice Ao7 t208.length co7] rfl ?_; (with_reducible refine (delta_Join.calls a0 _ _ t208 t212 t213 _ ?side1 ?side2 A5.out).mono ?_); (case side1 => repeat (first | exact (Kd.R_reads' HO211.out).2.2 | (with_reducible refine Kd.C_alloc ?_ _) | (with_reducible refine Kd.C_drewN ?_ _) | (with_reducible refine Kd.C_drew ?_))); (case side2 => exact (Kd.R_reads' HO211.out).2.1); rintro e w8 ⟨rfl, hb⟩; refine ⟨_, rfl, ?_⟩; have n0_ := M.roB HO211 hb; have n1_ := M.upS HB hb; clear HO211 HB; have HO211 := n0_; have HB := n1_; clear n0_ n1_; (try clear hb)))
    go_ret2
    exact M.fin (M.up HB)
  · rw [if_neg c4] at H
    have c4b0 : (t209 == 0) = false := beq_eq_false_iff_ne.mpr c4
    have c4b1 : (t209 != 0) = true := bne_iff_ne.mpr c4
    simp only [Option.some.injEq, Prod.mk.injEq] at H
    obtain ⟨rfl, rfl⟩ := H
    go_enter Try.func21, Try.ntmps21
    go_wp2_with (first | ((with_reducible refine gate_callee (f := 19) rfl ?_); refine M.goes (some 10) Try.func19 #[.string a1] rfl ?_; (with_reducible refine (delta_Take.calls a1 t208 t209 _ A3.out).mono ?_); rintro e w9 ⟨v210, rfl, ho0, hb⟩; refine ⟨_, rfl, ?_⟩; have n0_ := Aside0.mk (Kd.R_lower ho0 (below_size (M.up HB))); have n1_ := M.upS HB hb; clear HB; have HO211 := n0_; have HB := n1_; clear n0_ n1_; (try clear hb); (try clear ho0)))
    go_ret2
    exact M.fin (M.up HB)

/-! ### pleachlaw11_DeltaBack: function 6 -/
mutual
def pleachlaw11_DeltaBack.j0 : Nat → ByteArray → ByteArray → List (S34) → Bool → Option (Bool)
  | 0, _, _, _, _ => none
  | k + 1, x0, x1, x2, x27 => if x27 = true then ((pleachlaw11_awake.f).bind fun t215 => (some t215)) else ((delta_Encode.f x0 x1).bind fun bt216 => ((delta_Apply.f x0 bt216.1).bind fun bt218 => (if bt216.2 = 0 then (if bt218.2 = 0 then (pleachlaw11_DeltaBack.j1 k x2 (bt218.1.toList != x1.toList)) else (pleachlaw11_DeltaBack.j1 k x2 true)) else (pleachlaw11_DeltaBack.j1 k x2 true))))
def pleachlaw11_DeltaBack.j1 : Nat → List (S34) → Bool → Option (Bool)
  | 0, _, _ => none
  | k + 1, x2, x51 => if x51 = true then (some false) else ((delta_Put.f x2).bind fun bt220 => (if bt220.2 = 0 then ((delta_Take.f bt220.1).bind fun bt223 => ((pleachref11_Same.f x2 bt223.1).bind fun t227 => (if t227 = true then (if bt223.2 = 0 then ((pleachlaw11_awake.f).bind fun t228 => (some t228)) else (some false)) else (some false)))) else (if bt220.1.toList = ([] : List UInt8) then ((pleachlaw11_awake.f).bind fun t222 => (some t222)) else (some false))))
end
def pleachlaw11_DeltaBack.f (k : Nat) (a0 : ByteArray) (a1 : ByteArray) (l2 : List (S34)) : Option (Bool) := if (a0.size : Int) > 3000 then (pleachlaw11_DeltaBack.j0 k a0 a1 l2 true) else (if (a1.size : Int) > 3000 then (pleachlaw11_DeltaBack.j0 k a0 a1 l2 true) else ((pleachlaw11_few.f l2).bind fun t214 => (pleachlaw11_DeltaBack.j0 k a0 a1 l2 (!t214))))
theorem pleachlaw11_DeltaBack.mono_l : ∀ k, (∀ y0 y1 y2 y3, LeO (pleachlaw11_DeltaBack.j0 k y0 y1 y2 y3) (pleachlaw11_DeltaBack.j0 (k + 1) y0 y1 y2 y3)) ∧ (∀ y0 y1, LeO (pleachlaw11_DeltaBack.j1 k y0 y1) (pleachlaw11_DeltaBack.j1 (k + 1) y0 y1))
  | 0 => ⟨fun _ _ _ _ r h => by simp [pleachlaw11_DeltaBack.j0] at h, fun _ _ r h => by simp [pleachlaw11_DeltaBack.j1] at h⟩
  | k + 1 => by
    obtain ⟨ih0, ih1⟩ := pleachlaw11_DeltaBack.mono_l k
    refine ⟨?_, ?_⟩
    · intro y0 y1 y2 y3
      unfold pleachlaw11_DeltaBack.j0
      repeat' first
      | (with_reducible exact ih0 _ _ _ _)
      | (with_reducible exact ih1 _ _)
      | (with_reducible exact LeO.refl _)
      | (with_reducible exact LeO.none _)
      | (with_reducible refine LeO.ite ?_ ?_)
      | (with_reducible refine LeO.bind ?_ (fun _ => ?_))
      | exact ih0 _ _ _ _
      | exact ih1 _ _
      | exact LeO.none _
      | refine LeO.ite ?_ ?_
      | refine LeO.bind ?_ (fun _ => ?_)
    · intro y0 y1
      unfold pleachlaw11_DeltaBack.j1
      repeat' first
      | (with_reducible exact ih0 _ _ _ _)
      | (with_reducible exact ih1 _ _)
      | (with_reducible exact LeO.refl _)
      | (with_reducible exact LeO.none _)
      | (with_reducible refine LeO.ite ?_ ?_)
      | (with_reducible refine LeO.bind ?_ (fun _ => ?_))
      | exact ih0 _ _ _ _
      | exact ih1 _ _
      | exact LeO.none _
      | refine LeO.ite ?_ ?_
      | refine LeO.bind ?_ (fun _ => ?_)
theorem pleachlaw11_DeltaBack.mono : ∀ a0 a1 a2 k, LeO (pleachlaw11_DeltaBack.f k a0 a1 a2) (pleachlaw11_DeltaBack.f (k + 1) a0 a1 a2) := by
  intro a0 a1 a2 k
  obtain ⟨ih0, ih1⟩ := pleachlaw11_DeltaBack.mono_l k
  unfold pleachlaw11_DeltaBack.f
  repeat' first
      | (with_reducible exact ih0 _ _ _ _)
      | (with_reducible exact ih1 _ _)
      | (with_reducible exact LeO.refl _)
      | (with_reducible exact LeO.none _)
      | (with_reducible refine LeO.ite ?_ ?_)
      | (with_reducible refine LeO.bind ?_ (fun _ => ?_))
      | exact ih0 _ _ _ _
      | exact ih1 _ _
      | exact LeO.none _
      | refine LeO.ite ?_ ?_
      | refine LeO.bind ?_ (fun _ => ?_)
set_option maxHeartbeats 8000000 in
set_option maxRecDepth 100000 in
theorem pleachlaw11_DeltaBack.calls (k : Nat) (a0 : ByteArray) (a1 : ByteArray) (A2 : Option Addr) (c2 : Nat) (l2 : List (S34)) (r : Bool) (w : World) (hr2 : Kd.C k34 w A2 l2.length l2) (hc2 : l2.length ≤ c2) (h : pleachlaw11_DeltaBack.f k a0 a1 l2 = some r) :
    Calls Try.prog 6 #[.string a0, .string a1, .slice A2 l2.length c2] w fun e w' => e = .returned (.bool r) ∧ Below w.heap.size w w' := by
  have HR2 := Aside0.mk hr2
  have HC2 := Aside0.mk hc2
  clear hr2 hc2
  have HB := Aside0.mk (Below.refl w.heap.size w)
  have H : (if (a0.size : Int) > 3000 then (pleachlaw11_DeltaBack.j0 k a0 a1 l2 true) else (if (a1.size : Int) > 3000 then (pleachlaw11_DeltaBack.j0 k a0 a1 l2 true) else ((pleachlaw11_few.f l2).bind fun t214 => (pleachlaw11_DeltaBack.j0 k a0 a1 l2 (!t214))))) = some r := h
  clear h
  have HC4 := Aside0.mk H
  clear H
  go_enter Try.func6, Try.ntmps6
  go_upto_region 1 with (fail)
  go_cut [27] (fun v27 wc => ∃ (kq : Nat) (x27_3 : Bool), v27 = .bool x27_3 ∧ Aside0 (pleachlaw11_DeltaBack.j0 kq a0 a1 l2 x27_3 = some r) ∧ Aside0 (kq ≤ k) ∧ Aside0 (Below w.heap.size w wc))
  case first =>
    have H := HC4.out
    clear HC4
    by_cases c5 : (a0.size : Int) > 3000
    · rw [if_pos c5] at H
      have c5b0 : decide (3000 < (a0.size : Int)) = true := decide_eq_true c5
      have c5b1 : decide (3000 < a0.size) = true := decide_eq_true (by omega)
      clear c5
      (first | rw [c5b0] | (simp only [i64_w, i32_w]; rw [c5b0]) | skip)
      have H' := Aside0.mk H
      clear H
      go_wp2
      go_meet
      case rel => exact ⟨_, (true), (by first | rfl | (simp; done) | (simp [*]; done) | (simp [M.isEmpty_bne]; done)), H', ⟨by first | omega | exact Nat.le_refl _⟩, ⟨M.up HB⟩⟩
    · rw [if_neg c5] at H
      have c5b0 : decide (3000 < (a0.size : Int)) = false := decide_eq_false c5
      have c5b1 : decide (3000 < a0.size) = false := decide_eq_false (by omega)
      clear c5
      (first | rw [c5b0] | (simp only [i64_w, i32_w]; rw [c5b0]) | skip)
      by_cases c6 : (a1.size : Int) > 3000
      · rw [if_pos c6] at H
        have c6b0 : decide (3000 < (a1.size : Int)) = true := decide_eq_true c6
        have c6b1 : decide (3000 < a1.size) = true := decide_eq_true (by omega)
        clear c6
        have H' := Aside0.mk H
        clear H
        go_wp2
        go_meet
        case rel => exact ⟨_, (true), (by first | rfl | (simp; done) | (simp [*]; done) | (simp [M.isEmpty_bne]; done)), H', ⟨by first | omega | exact Nat.le_refl _⟩, ⟨M.up HB⟩⟩
      · rw [if_neg c6] at H
        have c6b0 : decide (3000 < (a1.size : Int)) = false := decide_eq_false c6
        have c6b1 : decide (3000 < a1.size) = false := decide_eq_false (by omega)
        clear c6
        replace H := Option.bind_eq_some_iff.mp H
        obtain ⟨t214, A70, H⟩ := H
        replace H : (pleachlaw11_DeltaBack.j0 k a0 a1 l2 (!t214)) = some r := H
        have A7 := Aside0.mk A70
        clear A70
        have H' := Aside0.mk H
        clear H
        go_wp2_with (first | (go_at_call 13; (with_reducible refine (pleachlaw11_few.calls _ _ l2 t214 _ ?side1 ?side2 A7.out).mono ?_); (case side1 => exact M.cB HR2 HB); (case side2 => exact HC2.out); rintro e w8 ⟨rfl, hb⟩; have n0_ := M.upS HB hb; clear HB; have HB := n0_; clear n0_; (try clear hb); (try clear hb2); (try clear hk); (try clear hi)))
        go_meet
        case rel => exact ⟨_, (!t214), (by first | rfl | (simp; done) | (simp [*]; done) | (simp [M.isEmpty_bne]; done)), H', ⟨by first | omega | exact Nat.le_refl _⟩, ⟨M.up HB⟩⟩
  case rest =>
    clear HC4
    try clear c2
    try clear p2
    try clear c5
    try clear c5b0
    try clear c5b1
    try clear c6
    try clear c6b0
    try clear c6b1
    obtain ⟨kq, x27_3, rfl, HA, HJ3, HB⟩ := hcut
    cases kq with
    | zero => exact absurd HA.out (by simp [pleachlaw11_DeltaBack.j0])
    | succ kj3 =>
      have H := HA.out
      clear HA
      simp only [pleachlaw11_DeltaBack.j0] at H
      by_cases c9 : x27_3 = true
      · subst c9
        have H1 : ((pleachlaw11_awake.f).bind fun t215 => (some t215)) = some r := by rw [if_pos rfl] at H; exact H
        clear H
        have H := H1
        clear H1
        replace H := Option.bind_eq_some_iff.mp H
        obtain ⟨t215, A100, H⟩ := H
        replace H : (some t215) = some r := H
        have A10 := Aside0.mk A100
        clear A100
        obtain rfl := Option.some.inj H
        go_wp2_with (first | ((with_reducible refine gate_callee (f := 7) rfl ?_); refine M.goes (some 28) Try.func7 #[] rfl ?_; (with_reducible refine (pleachlaw11_awake.calls  t215 _ A10.out).mono ?_); rintro e w11 ⟨rfl, hb⟩; refine ⟨_, rfl, ?_⟩; have n0_ := M.upS HB hb; clear HB; have HB := n0_; clear n0_; (try clear hb)))
        go_ret
        exact M.fin (M.up HB)
      · replace c9 := Bool.eq_false_iff.mpr c9
        subst c9
        have H1 : ((delta_Encode.f a0 a1).bind fun bt216 => ((delta_Apply.f a0 bt216.1).bind fun bt218 => (if bt216.2 = 0 then (if bt218.2 = 0 then (pleachlaw11_DeltaBack.j1 kj3 l2 (bt218.1.toList != a1.toList)) else (pleachlaw11_DeltaBack.j1 kj3 l2 true)) else (pleachlaw11_DeltaBack.j1 kj3 l2 true)))) = some r := by rw [if_neg (show ¬ (false = true) by decide)] at H; exact H
        clear H
        have H := H1
        clear H1
        replace H := Option.bind_eq_some_iff.mp H
        obtain ⟨⟨t216, t217⟩, A120, H⟩ := H
        replace H : ((delta_Apply.f a0 t216).bind fun bt218 => (if t217 = 0 then (if bt218.2 = 0 then (pleachlaw11_DeltaBack.j1 kj3 l2 (bt218.1.toList != a1.toList)) else (pleachlaw11_DeltaBack.j1 kj3 l2 true)) else (pleachlaw11_DeltaBack.j1 kj3 l2 true))) = some r := H
        have A12 := Aside0.mk A120
        clear A120
        replace H := Option.bind_eq_some_iff.mp H
        obtain ⟨⟨t218, t219⟩, A130, H⟩ := H
        replace H : (if t217 = 0 then (if t219 = 0 then (pleachlaw11_DeltaBack.j1 kj3 l2 (t218.toList != a1.toList)) else (pleachlaw11_DeltaBack.j1 kj3 l2 true)) else (pleachlaw11_DeltaBack.j1 kj3 l2 true)) = some r := H
        have A13 := Aside0.mk A130
        clear A130
        have HC14 := Aside0.mk H
        clear H
        go_upto_region 5 with (first | ((with_reducible refine gate_callee (f := 10) rfl ?_); refine M.goes (some 32) Try.func10 #[.string a0, .string a1] rfl ?_; (with_reducible refine (delta_Encode.calls a0 a1 t216 t217 _ A12.out).mono ?_); rintro e w15 ⟨rfl, hb⟩; refine ⟨_, rfl, ?_⟩; have n0_ := M.upS HB hb; clear HB; have HB := n0_; clear n0_; (try clear hb)) | ((with_reducible refine gate_callee (f := 21) rfl ?_); refine M.goes (some 38) Try.func21 #[.string a0, .string t216] rfl ?_; (with_reducible refine (delta_Apply.calls a0 t216 t218 t219 _ A13.out).mono ?_); rintro e w16 ⟨rfl, hb⟩; refine ⟨_, rfl, ?_⟩; have n0_ := M.upS HB hb; clear HB; have HB := n0_; clear n0_; (try clear hb)))
        (try simp only [Act.put, List.setIfInBounds_toArray, List.set_cons_zero, List.set_cons_succ])
        go_cut [51] (fun v51 wc => ∃ (kq : Nat) (x51_13 : Bool), v51 = .bool x51_13 ∧ Aside0 (pleachlaw11_DeltaBack.j1 kq l2 x51_13 = some r) ∧ Aside0 (kq ≤ kj3) ∧ Aside0 (Below w.heap.size w wc))
        case first =>
          have H := HC14.out
          clear HC14
          by_cases c17 : t217 = 0
          · rw [if_pos c17] at H
            have c17b0 : (t217 == 0) = true := beq_iff_eq.mpr c17
            have c17b1 : (t217 != 0) = false := bne_eq_false_iff_eq.mpr c17
            clear c17
            (first | rw [c17b0] | (simp only [i64_w, i32_w]; rw [c17b0]) | skip)
            by_cases c18 : t219 = 0
            · rw [if_pos c18] at H
              have c18b0 : (t219 == 0) = true := beq_iff_eq.mpr c18
              have c18b1 : (t219 != 0) = false := bne_eq_false_iff_eq.mpr c18
              clear c18
              have H' := Aside0.mk H
              clear H
              go_wp2
              go_meet
              case rel => exact ⟨_, ((t218.toList != a1.toList)), (by first | rfl | (simp; done) | (simp [*]; done) | (simp [M.isEmpty_bne]; done)), H', ⟨by have := HJ3.out; first | omega | exact Nat.le_refl _⟩, ⟨M.up HB⟩⟩
            · rw [if_neg c18] at H
              have c18b0 : (t219 == 0) = false := beq_eq_false_iff_ne.mpr c18
              have c18b1 : (t219 != 0) = true := bne_iff_ne.mpr c18
              have H' := Aside0.mk H
              clear H
              go_wp2
              go_meet
              case rel => exact ⟨_, (true), (by first | rfl | (simp; done) | (simp [*]; done) | (simp [M.isEmpty_bne]; done)), H', ⟨by have := HJ3.out; first | omega | exact Nat.le_refl _⟩, ⟨M.up HB⟩⟩
          · rw [if_neg c17] at H
            have c17b0 : (t217 == 0) = false := beq_eq_false_iff_ne.mpr c17
            have c17b1 : (t217 != 0) = true := bne_iff_ne.mpr c17
            (first | rw [c17b0] | (simp only [i64_w, i32_w]; rw [c17b0]) | skip)
            have H' := Aside0.mk H
            clear H
            go_wp2
            go_meet
            case rel => exact ⟨_, (true), (by first | rfl | (simp; done) | (simp [*]; done) | (simp [M.isEmpty_bne]; done)), H', ⟨by have := HJ3.out; first | omega | exact Nat.le_refl _⟩, ⟨M.up HB⟩⟩
        case rest =>
          clear HC14
          try clear c1
          try clear c2
          try clear p2
          try clear c5
          try clear c5b0
          try clear c5b1
          try clear c6
          try clear c6b0
          try clear c6b1
          try clear c7
          try clear c9
          try clear c10
          try clear c17
          try clear c17b0
          try clear c17b1
          try clear c18
          try clear c18b0
          try clear c18b1
          try clear p2
          obtain ⟨kq, x51_13, rfl, HA, HJ13, HB⟩ := hcut
          cases kq with
          | zero => exact absurd HA.out (by simp [pleachlaw11_DeltaBack.j1])
          | succ kj13 =>
            have H := HA.out
            clear HA
            simp only [pleachlaw11_DeltaBack.j1] at H
            by_cases c19 : x51_13 = true
            · subst c19
              have H1 : (some false) = some r := by rw [if_pos rfl] at H; exact H
              clear H
              have H := H1
              clear H1
              obtain rfl := Option.some.inj H
              go_wp2
              go_ret
              exact M.fin (M.up HB)
            · replace c19 := Bool.eq_false_iff.mpr c19
              subst c19
              have H1 : ((delta_Put.f l2).bind fun bt220 => (if bt220.2 = 0 then ((delta_Take.f bt220.1).bind fun bt223 => ((pleachref11_Same.f l2 bt223.1).bind fun t227 => (if t227 = true then (if bt223.2 = 0 then ((pleachlaw11_awake.f).bind fun t228 => (some t228)) else (some false)) else (some false)))) else (if bt220.1.toList = ([] : List UInt8) then ((pleachlaw11_awake.f).bind fun t222 => (some t222)) else (some false)))) = some r := by rw [if_neg (show ¬ (false = true) by decide)] at H; exact H
              clear H
              have H := H1
              clear H1
              replace H := Option.bind_eq_some_iff.mp H
              obtain ⟨⟨t220, t221⟩, A200, H⟩ := H
              replace H : (if t221 = 0 then ((delta_Take.f t220).bind fun bt223 => ((pleachref11_Same.f l2 bt223.1).bind fun t227 => (if t227 = true then (if bt223.2 = 0 then ((pleachlaw11_awake.f).bind fun t228 => (some t228)) else (some false)) else (some false)))) else (if t220.toList = ([] : List UInt8) then ((pleachlaw11_awake.f).bind fun t222 => (some t222)) else (some false))) = some r := H
              have A20 := Aside0.mk A200
              clear A200
              by_cases c21 : t221 = 0
              · rw [if_pos c21] at H
                have c21b0 : (t221 == 0) = true := beq_iff_eq.mpr c21
                have c21b1 : (t221 != 0) = false := bne_eq_false_iff_eq.mpr c21
                clear c21
                replace H := Option.bind_eq_some_iff.mp H
                obtain ⟨⟨t223, t224⟩, A220, H⟩ := H
                replace H : ((pleachref11_Same.f l2 t223).bind fun t227 => (if t227 = true then (if t224 = 0 then ((pleachlaw11_awake.f).bind fun t228 => (some t228)) else (some false)) else (some false))) = some r := H
                have A22 := Aside0.mk A220
                clear A220
                replace H := Option.bind_eq_some_iff.mp H
                obtain ⟨t227, A230, H⟩ := H
                replace H : (if t227 = true then (if t224 = 0 then ((pleachlaw11_awake.f).bind fun t228 => (some t228)) else (some false)) else (some false)) = some r := H
                have A23 := Aside0.mk A230
                clear A230
                by_cases c24 : t227 = true
                · subst c24
                  have H1 : (if t224 = 0 then ((pleachlaw11_awake.f).bind fun t228 => (some t228)) else (some false)) = some r := by rw [if_pos rfl] at H; exact H
                  clear H
                  have H := H1
                  clear H1
                  by_cases c25 : t224 = 0
                  · rw [if_pos c25] at H
                    have c25b0 : (t224 == 0) = true := beq_iff_eq.mpr c25
                    have c25b1 : (t224 != 0) = false := bne_eq_false_iff_eq.mpr c25
                    clear c25
                    replace H := Option.bind_eq_some_iff.mp H
                    obtain ⟨t228, A260, H⟩ := H
                    replace H : (some t228) = some r := H
                    have A26 := Aside0.mk A260
                    clear A260
                    obtain rfl := Option.some.inj H
                    go_wp2_with (first | ((with_reducible refine gate_callee (f := 16) rfl ?_); refine M.goes (some 54) Try.func16 #[.slice A2 l2.length c2] rfl ?_; (with_reducible refine (delta_Put.calls _ _ l2 t220 t221 _ ?side1 ?side2 A20.out).mono ?_); (case side1 => exact M.cB HR2 HB); (case side2 => exact HC2.out); rintro e w27 ⟨rfl, hb⟩; refine ⟨_, rfl, ?_⟩; have n0_ := M.upS HB hb; clear HB; have HB := n0_; clear n0_; (try clear hb)) | ((with_reducible refine gate_callee (f := 19) rfl ?_); refine M.goes (some 66) Try.func19 #[.string t220] rfl ?_; (with_reducible refine (delta_Take.calls t220 t223 t224 _ A22.out).mono ?_); rintro e w28 ⟨v225, rfl, ho0, hb⟩; refine ⟨_, rfl, ?_⟩; have n0_ := Aside0.mk (Kd.R_lower ho0 (below_size (M.up HB))); have n1_ := M.upS HB hb; clear HB; have HO226 := n0_; have HB := n1_; clear n0_ n1_; (try clear hb); (try clear ho0); obtain ⟨Ao29, co29, eo29⟩ := Kd.R_slice HO226.out; subst eo29) | ((with_reducible refine gate_callee (f := 11) rfl ?_); refine M.goes (some 71) Try.func11 #[.slice A2 l2.length c2, .slice Ao29 t223.length co29] rfl ?_; (with_reducible refine (pleachref11_Same.calls _ _ l2 _ _ t223 true _ ?side1 ?side2 ?side3 ?side4 A23.out).mono ?_); (case side1 => exact M.cB HR2 HB); (case side2 => exact HC2.out); (case side3 => repeat (first | exact (Kd.R_reads' HO226.out).2.2 | (with_reducible refine Kd.C_alloc ?_ _) | (with_reducible refine Kd.C_drewN ?_ _) | (with_reducible refine Kd.C_drew ?_))); (case side4 => exact (Kd.R_reads' HO226.out).2.1); rintro e w' ⟨rfl, ⟨nd, rfl⟩⟩; refine ⟨_, rfl, ?_⟩) | (go_at_call 7; (with_reducible refine (pleachlaw11_awake.calls  t228 _ A26.out).mono ?_); rintro e w30 ⟨rfl, hb⟩; have n0_ := M.roB HO226 hb; have n1_ := M.upS HB hb; clear HO226 HB; have HO226 := n0_; have HB := n1_; clear n0_ n1_; (try clear hb); (try clear hb2); (try clear hk); (try clear hi)))
                    go_ret
                    exact M.fin (M.up HB)
                  · rw [if_neg c25] at H
                    have c25b0 : (t224 == 0) = false := beq_eq_false_iff_ne.mpr c25
                    have c25b1 : (t224 != 0) = true := bne_iff_ne.mpr c25
                    obtain rfl := Option.some.inj H
                    go_wp2_with (first | ((with_reducible refine gate_callee (f := 16) rfl ?_); refine M.goes (some 54) Try.func16 #[.slice A2 l2.length c2] rfl ?_; (with_reducible refine (delta_Put.calls _ _ l2 t220 t221 _ ?side1 ?side2 A20.out).mono ?_); (case side1 => exact M.cB HR2 HB); (case side2 => exact HC2.out); rintro e w31 ⟨rfl, hb⟩; refine ⟨_, rfl, ?_⟩; have n0_ := M.upS HB hb; clear HB; have HB := n0_; clear n0_; (try clear hb)) | ((with_reducible refine gate_callee (f := 19) rfl ?_); refine M.goes (some 66) Try.func19 #[.string t220] rfl ?_; (with_reducible refine (delta_Take.calls t220 t223 t224 _ A22.out).mono ?_); rintro e w32 ⟨v225, rfl, ho0, hb⟩; refine ⟨_, rfl, ?_⟩; have n0_ := Aside0.mk (Kd.R_lower ho0 (below_size (M.up HB))); have n1_ := M.upS HB hb; clear HB; have HO226 := n0_; have HB := n1_; clear n0_ n1_; (try clear hb); (try clear ho0); obtain ⟨Ao33, co33, eo33⟩ := Kd.R_slice HO226.out; subst eo33) | ((with_reducible refine gate_callee (f := 11) rfl ?_); refine M.goes (some 71) Try.func11 #[.slice A2 l2.length c2, .slice Ao33 t223.length co33] rfl ?_; (with_reducible refine (pleachref11_Same.calls _ _ l2 _ _ t223 true _ ?side1 ?side2 ?side3 ?side4 A23.out).mono ?_); (case side1 => exact M.cB HR2 HB); (case side2 => exact HC2.out); (case side3 => repeat (first | exact (Kd.R_reads' HO226.out).2.2 | (with_reducible refine Kd.C_alloc ?_ _) | (with_reducible refine Kd.C_drewN ?_ _) | (with_reducible refine Kd.C_drew ?_))); (case side4 => exact (Kd.R_reads' HO226.out).2.1); rintro e w' ⟨rfl, ⟨nd, rfl⟩⟩; refine ⟨_, rfl, ?_⟩))
                    go_ret
                    exact M.fin (M.up HB)
                · replace c24 := Bool.eq_false_iff.mpr c24
                  subst c24
                  have H1 : (some false) = some r := by rw [if_neg (show ¬ (false = true) by decide)] at H; exact H
                  clear H
                  have H := H1
                  clear H1
                  obtain rfl := Option.some.inj H
                  go_wp2_with (first | ((with_reducible refine gate_callee (f := 16) rfl ?_); refine M.goes (some 54) Try.func16 #[.slice A2 l2.length c2] rfl ?_; (with_reducible refine (delta_Put.calls _ _ l2 t220 t221 _ ?side1 ?side2 A20.out).mono ?_); (case side1 => exact M.cB HR2 HB); (case side2 => exact HC2.out); rintro e w34 ⟨rfl, hb⟩; refine ⟨_, rfl, ?_⟩; have n0_ := M.upS HB hb; clear HB; have HB := n0_; clear n0_; (try clear hb)) | ((with_reducible refine gate_callee (f := 19) rfl ?_); refine M.goes (some 66) Try.func19 #[.string t220] rfl ?_; (with_reducible refine (delta_Take.calls t220 t223 t224 _ A22.out).mono ?_); rintro e w35 ⟨v225, rfl, ho0, hb⟩; refine ⟨_, rfl, ?_⟩; have n0_ := Aside0.mk (Kd.R_lower ho0 (below_size (M.up HB))); have n1_ := M.upS HB hb; clear HB; have HO226 := n0_; have HB := n1_; clear n0_ n1_; (try clear hb); (try clear ho0); obtain ⟨Ao36, co36, eo36⟩ := Kd.R_slice HO226.out; subst eo36) | ((with_reducible refine gate_callee (f := 11) rfl ?_); refine M.goes (some 71) Try.func11 #[.slice A2 l2.length c2, .slice Ao36 t223.length co36] rfl ?_; (with_reducible refine (pleachref11_Same.calls _ _ l2 _ _ t223 false _ ?side1 ?side2 ?side3 ?side4 A23.out).mono ?_); (case side1 => exact M.cB HR2 HB); (case side2 => exact HC2.out); (case side3 => repeat (first | exact (Kd.R_reads' HO226.out).2.2 | (with_reducible refine Kd.C_alloc ?_ _) | (with_reducible refine Kd.C_drewN ?_ _) | (with_reducible refine Kd.C_drew ?_))); (case side4 => exact (Kd.R_reads' HO226.out).2.1); rintro e w' ⟨rfl, ⟨nd, rfl⟩⟩; refine ⟨_, rfl, ?_⟩))
                  go_ret
                  exact M.fin (M.up HB)
              · rw [if_neg c21] at H
                have c21b0 : (t221 == 0) = false := beq_eq_false_iff_ne.mpr c21
                have c21b1 : (t221 != 0) = true := bne_iff_ne.mpr c21
                by_cases c37 : t220.toList = ([] : List UInt8)
                · rw [if_pos c37] at H
                  have c37b0 : (t220.toList == ([] : List UInt8)) = true := beq_iff_eq.mpr c37
                  have c37b1 : (t220.toList != ([] : List UInt8)) = false := bne_eq_false_iff_eq.mpr c37
                  clear c37
                  replace H := Option.bind_eq_some_iff.mp H
                  obtain ⟨t222, A380, H⟩ := H
                  replace H : (some t222) = some r := H
                  have A38 := Aside0.mk A380
                  clear A380
                  obtain rfl := Option.some.inj H
                  go_wp2_with (first | ((with_reducible refine gate_callee (f := 16) rfl ?_); refine M.goes (some 54) Try.func16 #[.slice A2 l2.length c2] rfl ?_; (with_reducible refine (delta_Put.calls _ _ l2 t220 t221 _ ?side1 ?side2 A20.out).mono ?_); (case side1 => exact M.cB HR2 HB); (case side2 => exact HC2.out); rintro e w39 ⟨rfl, hb⟩; refine ⟨_, rfl, ?_⟩; have n0_ := M.upS HB hb; clear HB; have HB := n0_; clear n0_; (try clear hb)) | (go_at_call 7; (with_reducible refine (pleachlaw11_awake.calls  t222 _ A38.out).mono ?_); rintro e w40 ⟨rfl, hb⟩; have n0_ := M.upS HB hb; clear HB; have HB := n0_; clear n0_; (try clear hb); (try clear hb2); (try clear hk); (try clear hi)))
                  go_ret
                  exact M.fin (M.up HB)
                · rw [if_neg c37] at H
                  have c37b0 : (t220.toList == ([] : List UInt8)) = false := beq_eq_false_iff_ne.mpr c37
                  have c37b1 : (t220.toList != ([] : List UInt8)) = true := bne_iff_ne.mpr c37
                  obtain rfl := Option.some.inj H
                  go_wp2_with (first | ((with_reducible refine gate_callee (f := 16) rfl ?_); refine M.goes (some 54) Try.func16 #[.slice A2 l2.length c2] rfl ?_; (with_reducible refine (delta_Put.calls _ _ l2 t220 t221 _ ?side1 ?side2 A20.out).mono ?_); (case side1 => exact M.cB HR2 HB); (case side2 => exact HC2.out); rintro e w41 ⟨rfl, hb⟩; refine ⟨_, rfl, ?_⟩; have n0_ := M.upS HB hb; clear HB; have HB := n0_; clear n0_; (try clear hb)))
                  go_ret
                  exact M.fin (M.up HB)

/-- What is known of a record that came in. -/
def Good34 (x : S34) : Prop := (True) ∧ ((Lit.int .i64 x.f1).wf = true) ∧ ((Lit.int .i64 x.f2).wf = true) ∧ (x.f3.size ≤ 9223372036854775807)
/-- THE ONE PURE STATEMENT of pleachlaw11_DeltaBack: this session's form. -/
def pleachlaw11_DeltaBack.Pure : Prop := ∀ (a0 : ByteArray) (a1 : ByteArray) (l2 : List (S34)), (a0.size ≤ 140737488351232) → (a1.size ≤ 140737488351232) → ((∀ y ∈ l2, Good34 y) ∧ l2.length ≤ 9223372036854775807) → ∃ k, pleachlaw11_DeltaBack.f k a0 a1 l2 = some true

end Go.Proofs.Ytadpicphohobbaa.EDeltaBack
