-- Written by this session's own program (wip/tools/ext.py) for this claim; Lean checks it.
import Derived.Test.YtadpicphohobbaaEDeltaTakesx0
import Derived.Test.YtadpicphohobbaaEDeltaTakesx3
import Derived.Test.YtadpicphohobbaaEDeltaTakesx5
import Derived.Test.YtadpicphohobbaaEDeltaTakesx8
namespace Go.Proofs.Ytadpicphohobbaa.EDeltaTakes
open Go.RowKit Go.Proofs.YtadpicphohobbaaW.PrintWords Go.Proofs.YtadpicphohobbaaW.PrintLast Go.Proofs.YtadpicphohobbaaW.PrintMore
attribute [local go_sem] M.run_leq M.run_gtr M.run_geq max2_int min2_int max_two min_two max_three min_three max_four min_four   -- for this text's walks alone
set_option linter.unusedVariables false
set_option linter.unusedSimpArgs false

/-! ### delta_Join_p: function 17 -/
def delta_Join_p.l0 : Nat → ByteArray → List Int → List (S34) → Int → Int → Option (ByteArray × Int)
  | 0, _, _, _, _, _ => none
  | k + 1, x0, x6, x10, x11, x12 => if x12 < x11 then (if 0 ≤ x12 then (if x12 < (x10.length : Int) then ((delta_Check.f ((rd_T34 x10 x12).f0) ((rd_T34 x10 x12).f1) ((rd_T34 x10 x12).f2) ((rd_T34 x10 x12).f3)).bind fun t238 => (if t238 = 0 then (if ((rd_T34 x10 x12).f2) > (wrap64 (65536 - (x6.length : Int))) then (some ((⟨#[]⟩ : ByteArray), 5)) else (if ((rd_T34 x10 x12).f0 = true) then (if ((rd_T34 x10 x12).f1) > (x0.size : Int) then (some ((⟨#[]⟩ : ByteArray), 8)) else (if ((rd_T34 x10 x12).f2) > (wrap64 ((x0.size : Int) - ((rd_T34 x10 x12).f1))) then (some ((⟨#[]⟩ : ByteArray), 8)) else (if 0 ≤ ((rd_T34 x10 x12).f1) then (if ((rd_T34 x10 x12).f1) ≤ (wrap64 (((rd_T34 x10 x12).f1) + ((rd_T34 x10 x12).f2))) then (if (wrap64 (((rd_T34 x10 x12).f1) + ((rd_T34 x10 x12).f2))) ≤ (x0.size : Int) then (if x6.length + (x0.extract (((rd_T34 x10 x12).f1) : Int).toNat ((wrap64 (((rd_T34 x10 x12).f1) + ((rd_T34 x10 x12).f2))) : Int).toNat).size < 140737488355328 then (delta_Join_p.l0 k x0 (x6 ++ bytesOf (x0.extract (((rd_T34 x10 x12).f1) : Int).toNat ((wrap64 (((rd_T34 x10 x12).f1) + ((rd_T34 x10 x12).f2))) : Int).toNat)) x10 x11 (wrap64 (x12 + 1))) else (none)) else (none)) else (none)) else (none)))) else (if x6.length + ((rd_T34 x10 x12).f3).size < 140737488355328 then (delta_Join_p.l0 k x0 (x6 ++ bytesOf ((rd_T34 x10 x12).f3)) x10 x11 (wrap64 (x12 + 1))) else (none)))) else (some ((⟨#[]⟩ : ByteArray), t238)))) else (none)) else (none)) else (some (strOfNums x6, 0))
def delta_Join_p.f (k : Nat) (a0 : ByteArray) (l1 : List (S34)) : Option (ByteArray × Int) := delta_Join_p.l0 k a0 ([] : List Int) l1 (l1.length : Int) 0
theorem delta_Join_p.mono_l : ∀ k, (∀ y0 y1 y2 y3 y4, LeO (delta_Join_p.l0 k y0 y1 y2 y3 y4) (delta_Join_p.l0 (k + 1) y0 y1 y2 y3 y4))
  | 0 => fun _ _ _ _ _ r h => by simp [delta_Join_p.l0] at h
  | k + 1 => by
    have ih0 := delta_Join_p.mono_l k
    · intro y0 y1 y2 y3 y4
      unfold delta_Join_p.l0
      repeat' first
      | (with_reducible exact ih0 _ _ _ _ _)
      | (with_reducible exact LeO.refl _)
      | (with_reducible exact LeO.none _)
      | (with_reducible refine LeO.ite ?_ ?_)
      | (with_reducible refine LeO.bind ?_ (fun _ => ?_))
      | exact ih0 _ _ _ _ _
      | exact LeO.none _
      | refine LeO.ite ?_ ?_
      | refine LeO.bind ?_ (fun _ => ?_)
theorem delta_Join_p.mono : ∀ a0 a1 k, LeO (delta_Join_p.f k a0 a1) (delta_Join_p.f (k + 1) a0 a1) := by
  intro a0 a1 k
  have ih0 := delta_Join_p.mono_l k
  unfold delta_Join_p.f
  repeat' first
      | (with_reducible exact ih0 _ _ _ _ _)
      | (with_reducible exact LeO.refl _)
      | (with_reducible exact LeO.none _)
      | (with_reducible refine LeO.ite ?_ ?_)
      | (with_reducible refine LeO.bind ?_ (fun _ => ?_))
      | exact ih0 _ _ _ _ _
      | exact LeO.none _
      | refine LeO.ite ?_ ?_
      | refine LeO.bind ?_ (fun _ => ?_)
set_option maxHeartbeats 8000000 in
set_option maxRecDepth 100000 in
theorem delta_Join_p.calls (k : Nat) (a0 : ByteArray) (A1 : Option Addr) (c1 : Nat) (l1 : List (S34)) (r1 : ByteArray) (r2 : Int) (w : World) (hr1 : Kd.C k34 w A1 l1.length l1) (hc1 : l1.length ≤ c1) (h : delta_Join_p.f k a0 l1 = some (r1, r2)) :
    Calls Try.prog 17 #[.string a0, .slice A1 l1.length c1] w fun e w' => e = .returned (.tuple #[.string r1, .int .i64 r2]) ∧ Below w.heap.size w w' := by
  have hu34 := Try.underlying34
  have HR1 := Aside0.mk hr1
  have HC1 := Aside0.mk hc1
  clear hr1 hc1
  have HB := Aside0.mk (Below.refl w.heap.size w)
  have H : (delta_Join_p.l0 k a0 ([] : List Int) l1 (l1.length : Int) 0) = some (r1, r2) := h
  clear h
  have H' := Aside0.mk H
  clear H
  go_enter Try.func17, Try.ntmps17
  go_wp2
  go_loopg [6, 12] k (fun kq v6 v12 w' => ∃ (x6_1 : List Int) (x12_1 : Int), v12 = .int .i64 x12_1 ∧ Aside0 (delta_Join_p.l0 kq a0 x6_1 l1 (l1.length : Int) x12_1 = some (r1, r2)) ∧ Aside0 (kq ≤ k) ∧ Aside0 (Kd.R (Kd.int .u8) 5 w' w.heap.size (fun _ => True) v6 x6_1) ∧ Aside0 (Below w.heap.size w w'))
  case atStart => exact ⟨(([] : List Int)), (0), (by first | rfl | (simp; done) | (simp [*]; done) | (simp [M.isEmpty_bne]; done)), H', ⟨Nat.le_refl _⟩, ⟨by first | exact Kd.R_nil _ _ _ _ _ | exact Kd.N_nil _ _ _ _ _ | exact Kd.V_nil _ _ _ _ _ | exact Kd.Q_nil _ _ _ _ _ | exact Kd.S_nil _ _ _ _ _⟩, ⟨M.up HB⟩⟩
  case round =>
    clear H'
    try clear c1
    try clear p2
    obtain ⟨x6_1, x12_1, rfl, HA, HK1, zaa, HB⟩ := hrel
    cases gk with
    | zero => exact absurd HA.out (by simp [delta_Join_p.l0])
    | succ k1 =>
      have H := HA.out
      clear HA
      simp only [delta_Join_p.l0] at H
      by_cases c3 : x12_1 < (l1.length : Int)
      · rw [if_pos c3] at H
        have c3b0 : decide (x12_1 < (l1.length : Int)) = true := decide_eq_true c3
        clear c3
        by_cases c4 : 0 ≤ x12_1
        · rw [if_pos c4] at H
          have c4b0 : decide (0 ≤ x12_1) = true := decide_eq_true c4
          clear c4
          by_cases c5 : x12_1 < (l1.length : Int)
          · rw [if_pos c5] at H
            have c5b0 : decide (x12_1 < (l1.length : Int)) = true := decide_eq_true c5
            clear c5
            replace H := Option.bind_eq_some_iff.mp H
            obtain ⟨t238, A60, H⟩ := H
            replace H : (if t238 = 0 then (if ((rd_T34 l1 x12_1).f2) > (wrap64 (65536 - (x6_1.length : Int))) then (some ((⟨#[]⟩ : ByteArray), 5)) else (if ((rd_T34 l1 x12_1).f0 = true) then (if ((rd_T34 l1 x12_1).f1) > (a0.size : Int) then (some ((⟨#[]⟩ : ByteArray), 8)) else (if ((rd_T34 l1 x12_1).f2) > (wrap64 ((a0.size : Int) - ((rd_T34 l1 x12_1).f1))) then (some ((⟨#[]⟩ : ByteArray), 8)) else (if 0 ≤ ((rd_T34 l1 x12_1).f1) then (if ((rd_T34 l1 x12_1).f1) ≤ (wrap64 (((rd_T34 l1 x12_1).f1) + ((rd_T34 l1 x12_1).f2))) then (if (wrap64 (((rd_T34 l1 x12_1).f1) + ((rd_T34 l1 x12_1).f2))) ≤ (a0.size : Int) then (if x6_1.length + (a0.extract (((rd_T34 l1 x12_1).f1) : Int).toNat ((wrap64 (((rd_T34 l1 x12_1).f1) + ((rd_T34 l1 x12_1).f2))) : Int).toNat).size < 140737488355328 then (delta_Join_p.l0 k1 a0 (x6_1 ++ bytesOf (a0.extract (((rd_T34 l1 x12_1).f1) : Int).toNat ((wrap64 (((rd_T34 l1 x12_1).f1) + ((rd_T34 l1 x12_1).f2))) : Int).toNat)) l1 (l1.length : Int) (wrap64 (x12_1 + 1))) else (none)) else (none)) else (none)) else (none)))) else (if x6_1.length + ((rd_T34 l1 x12_1).f3).size < 140737488355328 then (delta_Join_p.l0 k1 a0 (x6_1 ++ bytesOf ((rd_T34 l1 x12_1).f3)) l1 (l1.length : Int) (wrap64 (x12_1 + 1))) else (none)))) else (some ((⟨#[]⟩ : ByteArray), t238))) = some (r1, r2) := H
            have A6 := Aside0.mk A60
            clear A60
            by_cases c7 : t238 = 0
            · rw [if_pos c7] at H
              have c7b0 : (t238 == 0) = true := beq_iff_eq.mpr c7
              have c7b1 : (t238 != 0) = false := bne_eq_false_iff_eq.mpr c7
              clear c7
              by_cases c8 : ((rd_T34 l1 x12_1).f2) > (wrap64 (65536 - (x6_1.length : Int)))
              · rw [if_pos c8] at H
                have c8b0 : decide ((wrap64 (65536 - (x6_1.length : Int))) < ((rd_T34 l1 x12_1).f2)) = true := decide_eq_true c8
                clear c8
                simp only [Option.some.injEq, Prod.mk.injEq] at H
                obtain ⟨rfl, rfl⟩ := H
                have p236 : 0 ≤ (x12_1 : Int) := of_decide_eq_true (by first | (with_reducible assumption) | assumption)
                have q236 : x12_1 < (l1.length : Int) := of_decide_eq_true (by first | (with_reducible assumption) | assumption)
                obtain ⟨ad236, e236, hx236_0, hx236_1, hx236_2, hx236_3⟩ := at_T34 HR1.out x12_1 p236 q236
                cases e236
                replace hx236_0 := (HB.out.cell (World.block_lt_of_cell? w _ hx236_0)).trans hx236_0
                replace hx236_1 := (HB.out.cell (World.block_lt_of_cell? w _ hx236_1)).trans hx236_1
                replace hx236_2 := (HB.out.cell (World.block_lt_of_cell? w _ hx236_2)).trans hx236_2
                replace hx236_3 := (HB.out.cell (World.block_lt_of_cell? w _ hx236_3)).trans hx236_3
                replace p236 := eq_true p236
                replace q236 := eq_true q236
                go_wp2_with (first | ((with_reducible refine gate_dst (N := 8) rfl ?_); (try (refine gate_guard (by rfl) ?_; dsimp only)); refine box_event ?hg (N := 8) ?hd (cs := #[.bool false, .int .i64 0, .int .i64 0, .string (⟨#[]⟩ : ByteArray)]) (t := 34) ?hr ?_; (case hd => rfl); (case hg => rfl); (case hr => first | (go_simp; done) | (go_simp; rfl)); intro zab hg w9 hbox hb; have n0_ := M.roB zaa hb; have n1_ := M.upS HB hb; have n2_ := Aside0.mk (hbox); have n3_ := M.upG HB hg; have n4_ := M.upG HB hg; clear zaa HB; have zaa := n0_; have HB := n1_; have zac := n2_; have zad := n3_; have zae := n4_; clear n0_ n1_ n2_ n3_ n4_; clear hb hbox hg; have zaf : w9.cell? ⟨zab, 0, none⟩ = some (.bool false) := (blk_cell zac.out 0).trans rfl; have zag : w9.cell? ⟨zab, 1, none⟩ = some (.int .i64 0) := (blk_cell zac.out 1).trans rfl; have zah : w9.cell? ⟨zab, 2, none⟩ = some (.int .i64 0) := (blk_cell zac.out 2).trans rfl; have zai : w9.cell? ⟨zab, 3, none⟩ = some (.string (⟨#[]⟩ : ByteArray)) := (blk_cell zac.out 3).trans rfl; have zaj := blk_frozen zac.out 0; have zak := blk_frozen zac.out 1; have zal := blk_frozen zac.out 2; have zam := blk_frozen zac.out 3) | ((with_reducible refine gate_callee (f := 14) rfl ?_); refine M.goes (some 17) Try.func14 #[.agg #[.bool ((rd_T34 l1 x12_1).f0), .int .i64 ((rd_T34 l1 x12_1).f1), .int .i64 ((rd_T34 l1 x12_1).f2), .string ((rd_T34 l1 x12_1).f3)]] rfl ?_; (with_reducible refine (delta_Check.calls ((rd_T34 l1 x12_1).f0) ((rd_T34 l1 x12_1).f1) ((rd_T34 l1 x12_1).f2) ((rd_T34 l1 x12_1).f3) t238 _ A6.out).mono ?_); rintro e w11 ⟨rfl, hb⟩; refine ⟨_, rfl, ?_⟩; have n0_ := Aside0.mk (Kd.R_below (by (with_reducible repeat (first | apply Kd.R_alloc | apply Kd.R_drewN | apply Kd.R_drew)); exact (Kd.R_mono (Kd.R_far (p := ⟨zab, 3, none⟩) (Kd.R_far (p := ⟨zab, 2, none⟩) (Kd.R_far (p := ⟨zab, 1, none⟩) (Kd.R_far (p := ⟨zab, 0, none⟩) (Kd.R_types zaa.out zac.out (by decide)) (fun _ hk => hk.2) (.bool ((rd_T34 l1 x12_1).f0))) (fun _ hk => hk.2) (.int .i64 ((rd_T34 l1 x12_1).f1))) (fun _ hk => hk.2) (.int .i64 ((rd_T34 l1 x12_1).f2))) (fun _ hk => hk.2) (.string ((rd_T34 l1 x12_1).f3))) (fun _ h_ => h_.1))) hb); have n1_ := Aside0.mk (blk_below (g := zab) (o := .cells #[.bool ((rd_T34 l1 x12_1).f0), .int .i64 ((rd_T34 l1 x12_1).f1), .int .i64 ((rd_T34 l1 x12_1).f2), .string ((rd_T34 l1 x12_1).f3)] 34 (0, 0)) (by (with_reducible repeat (first | refine blk_drewN ?_ _ | refine blk_drew ?_ | refine blk_alloc ?_ _)); refine blk_put (cs := #[.bool ((rd_T34 l1 x12_1).f0), .int .i64 ((rd_T34 l1 x12_1).f1), .int .i64 ((rd_T34 l1 x12_1).f2), .string (⟨#[]⟩ : ByteArray)]) ?_ 3 _ rfl; (with_reducible repeat (first | refine blk_drewN ?_ _ | refine blk_drew ?_ | refine blk_alloc ?_ _)); refine blk_put (cs := #[.bool ((rd_T34 l1 x12_1).f0), .int .i64 ((rd_T34 l1 x12_1).f1), .int .i64 0, .string (⟨#[]⟩ : ByteArray)]) ?_ 2 _ rfl; (with_reducible repeat (first | refine blk_drewN ?_ _ | refine blk_drew ?_ | refine blk_alloc ?_ _)); refine blk_put (cs := #[.bool ((rd_T34 l1 x12_1).f0), .int .i64 0, .int .i64 0, .string (⟨#[]⟩ : ByteArray)]) ?_ 1 _ rfl; (with_reducible repeat (first | refine blk_drewN ?_ _ | refine blk_drew ?_ | refine blk_alloc ?_ _)); refine blk_put (cs := #[.bool false, .int .i64 0, .int .i64 0, .string (⟨#[]⟩ : ByteArray)]) ?_ 0 _ rfl; (with_reducible repeat (first | refine blk_drewN ?_ _ | refine blk_drew ?_ | refine blk_alloc ?_ _)); exact zac.out) hb); have n2_ := M.upS HB hb; clear zaa zac HB; have zaa := n0_; have zac := n1_; have HB := n2_; clear n0_ n1_ n2_; (try clear hb); have zan : w11.cell? ⟨zab, 0, none⟩ = some (.bool ((rd_T34 l1 x12_1).f0)) := (blk_cell zac.out 0).trans rfl; have zao : w11.cell? ⟨zab, 1, none⟩ = some (.int .i64 ((rd_T34 l1 x12_1).f1)) := (blk_cell zac.out 1).trans rfl; have zap : w11.cell? ⟨zab, 2, none⟩ = some (.int .i64 ((rd_T34 l1 x12_1).f2)) := (blk_cell zac.out 2).trans rfl; have zaq : w11.cell? ⟨zab, 3, none⟩ = some (.string ((rd_T34 l1 x12_1).f3)) := (blk_cell zac.out 3).trans rfl; have zar := blk_frozen zac.out 0; have zas := blk_frozen zac.out 1; have zat := blk_frozen zac.out 2; have zau := blk_frozen zac.out 3; obtain ⟨Ao13, co13, eo13⟩ := Kd.R_slice zaa.out; subst eo13))
                go_ret2
                exact M.fin (M.up HB)
              · rw [if_neg c8] at H
                have c8b0 : decide ((wrap64 (65536 - (x6_1.length : Int))) < ((rd_T34 l1 x12_1).f2)) = false := decide_eq_false c8
                clear c8
                obtain ⟨bq14, hbq14⟩ : ∃ b_ : Bool, b_ = ((rd_T34 l1 x12_1).f0) := ⟨_, rfl⟩
                replace H : (if (bq14 = true) then (if ((rd_T34 l1 x12_1).f1) > (a0.size : Int) then (some ((⟨#[]⟩ : ByteArray), 8)) else (if ((rd_T34 l1 x12_1).f2) > (wrap64 ((a0.size : Int) - ((rd_T34 l1 x12_1).f1))) then (some ((⟨#[]⟩ : ByteArray), 8)) else (if 0 ≤ ((rd_T34 l1 x12_1).f1) then (if ((rd_T34 l1 x12_1).f1) ≤ (wrap64 (((rd_T34 l1 x12_1).f1) + ((rd_T34 l1 x12_1).f2))) then (if (wrap64 (((rd_T34 l1 x12_1).f1) + ((rd_T34 l1 x12_1).f2))) ≤ (a0.size : Int) then (if x6_1.length + (a0.extract (((rd_T34 l1 x12_1).f1) : Int).toNat ((wrap64 (((rd_T34 l1 x12_1).f1) + ((rd_T34 l1 x12_1).f2))) : Int).toNat).size < 140737488355328 then (delta_Join_p.l0 k1 a0 (x6_1 ++ bytesOf (a0.extract (((rd_T34 l1 x12_1).f1) : Int).toNat ((wrap64 (((rd_T34 l1 x12_1).f1) + ((rd_T34 l1 x12_1).f2))) : Int).toNat)) l1 (l1.length : Int) (wrap64 (x12_1 + 1))) else (none)) else (none)) else (none)) else (none)))) else (if x6_1.length + ((rd_T34 l1 x12_1).f3).size < 140737488355328 then (delta_Join_p.l0 k1 a0 (x6_1 ++ bytesOf ((rd_T34 l1 x12_1).f3)) l1 (l1.length : Int) (wrap64 (x12_1 + 1))) else (none))) = some (r1, r2) := by rw [← hbq14] at H; exact H
                have Nbq14 := Aside0.mk hbq14
                clear hbq14
                by_cases c15 : (bq14 = true)
                · subst c15
                  have H1 : (if ((rd_T34 l1 x12_1).f1) > (a0.size : Int) then (some ((⟨#[]⟩ : ByteArray), 8)) else (if ((rd_T34 l1 x12_1).f2) > (wrap64 ((a0.size : Int) - ((rd_T34 l1 x12_1).f1))) then (some ((⟨#[]⟩ : ByteArray), 8)) else (if 0 ≤ ((rd_T34 l1 x12_1).f1) then (if ((rd_T34 l1 x12_1).f1) ≤ (wrap64 (((rd_T34 l1 x12_1).f1) + ((rd_T34 l1 x12_1).f2))) then (if (wrap64 (((rd_T34 l1 x12_1).f1) + ((rd_T34 l1 x12_1).f2))) ≤ (a0.size : Int) then (if x6_1.length + (a0.extract (((rd_T34 l1 x12_1).f1) : Int).toNat ((wrap64 (((rd_T34 l1 x12_1).f1) + ((rd_T34 l1 x12_1).f2))) : Int).toNat).size < 140737488355328 then (delta_Join_p.l0 k1 a0 (x6_1 ++ bytesOf (a0.extract (((rd_T34 l1 x12_1).f1) : Int).toNat ((wrap64 (((rd_T34 l1 x12_1).f1) + ((rd_T34 l1 x12_1).f2))) : Int).toNat)) l1 (l1.length : Int) (wrap64 (x12_1 + 1))) else (none)) else (none)) else (none)) else (none)))) = some (r1, r2) := by rw [if_pos rfl] at H; exact H
                  clear H
                  have H := H1
                  clear H1
                  by_cases c16 : ((rd_T34 l1 x12_1).f1) > (a0.size : Int)
                  · rw [if_pos c16] at H
                    have c16b0 : decide ((a0.size : Int) < ((rd_T34 l1 x12_1).f1)) = true := decide_eq_true c16
                    clear c16
                    simp only [Option.some.injEq, Prod.mk.injEq] at H
                    obtain ⟨rfl, rfl⟩ := H
                    have p236 : 0 ≤ (x12_1 : Int) := of_decide_eq_true (by first | (with_reducible assumption) | assumption)
                    have q236 : x12_1 < (l1.length : Int) := of_decide_eq_true (by first | (with_reducible assumption) | assumption)
                    obtain ⟨ad236, e236, hx236_0, hx236_1, hx236_2, hx236_3⟩ := at_T34 HR1.out x12_1 p236 q236
                    (try rw [← Nbq14.out] at hx236_0)
                    cases e236
                    replace hx236_0 := (HB.out.cell (World.block_lt_of_cell? w _ hx236_0)).trans hx236_0
                    replace hx236_1 := (HB.out.cell (World.block_lt_of_cell? w _ hx236_1)).trans hx236_1
                    replace hx236_2 := (HB.out.cell (World.block_lt_of_cell? w _ hx236_2)).trans hx236_2
                    replace hx236_3 := (HB.out.cell (World.block_lt_of_cell? w _ hx236_3)).trans hx236_3
                    replace p236 := eq_true p236
                    replace q236 := eq_true q236
                    go_wp2_with (first | ((with_reducible refine gate_dst (N := 8) rfl ?_); (try (refine gate_guard (by rfl) ?_; dsimp only)); refine box_event ?hg (N := 8) ?hd (cs := #[.bool false, .int .i64 0, .int .i64 0, .string (⟨#[]⟩ : ByteArray)]) (t := 34) ?hr ?_; (case hd => rfl); (case hg => rfl); (case hr => first | (go_simp; done) | (go_simp; rfl)); intro zab hg w17 hbox hb; have n0_ := M.roB zaa hb; have n1_ := M.upS HB hb; have n2_ := Aside0.mk (hbox); have n3_ := M.upG HB hg; have n4_ := M.upG HB hg; clear zaa HB; have zaa := n0_; have HB := n1_; have zac := n2_; have zad := n3_; have zae := n4_; clear n0_ n1_ n2_ n3_ n4_; clear hb hbox hg; have zav : w17.cell? ⟨zab, 0, none⟩ = some (.bool false) := (blk_cell zac.out 0).trans rfl; have zaw : w17.cell? ⟨zab, 1, none⟩ = some (.int .i64 0) := (blk_cell zac.out 1).trans rfl; have zax : w17.cell? ⟨zab, 2, none⟩ = some (.int .i64 0) := (blk_cell zac.out 2).trans rfl; have zay : w17.cell? ⟨zab, 3, none⟩ = some (.string (⟨#[]⟩ : ByteArray)) := (blk_cell zac.out 3).trans rfl; have zaz := blk_frozen zac.out 0; have zaA := blk_frozen zac.out 1; have zaB := blk_frozen zac.out 2; have zaC := blk_frozen zac.out 3) | ((with_reducible refine gate_callee (f := 14) rfl ?_); refine M.goes (some 17) Try.func14 #[.agg #[.bool true, .int .i64 ((rd_T34 l1 x12_1).f1), .int .i64 ((rd_T34 l1 x12_1).f2), .string ((rd_T34 l1 x12_1).f3)]] rfl ?_; (with_reducible refine (delta_Check.calls true ((rd_T34 l1 x12_1).f1) ((rd_T34 l1 x12_1).f2) ((rd_T34 l1 x12_1).f3) t238 _ (by first | exact A6.out | (have q_ := A6.out; rw [← Nbq14.out] at q_; exact q_))).mono ?_); rintro e w19 ⟨rfl, hb⟩; refine ⟨_, rfl, ?_⟩; have n0_ := Aside0.mk (Kd.R_below (by (with_reducible repeat (first | apply Kd.R_alloc | apply Kd.R_drewN | apply Kd.R_drew)); exact (Kd.R_mono (Kd.R_far (p := ⟨zab, 3, none⟩) (Kd.R_far (p := ⟨zab, 2, none⟩) (Kd.R_far (p := ⟨zab, 1, none⟩) (Kd.R_far (p := ⟨zab, 0, none⟩) (Kd.R_types zaa.out zac.out (by decide)) (fun _ hk => hk.2) (.bool true)) (fun _ hk => hk.2) (.int .i64 ((rd_T34 l1 x12_1).f1))) (fun _ hk => hk.2) (.int .i64 ((rd_T34 l1 x12_1).f2))) (fun _ hk => hk.2) (.string ((rd_T34 l1 x12_1).f3))) (fun _ h_ => h_.1))) hb); have n1_ := Aside0.mk (blk_below (g := zab) (o := .cells #[.bool true, .int .i64 ((rd_T34 l1 x12_1).f1), .int .i64 ((rd_T34 l1 x12_1).f2), .string ((rd_T34 l1 x12_1).f3)] 34 (0, 0)) (by (with_reducible repeat (first | refine blk_drewN ?_ _ | refine blk_drew ?_ | refine blk_alloc ?_ _)); refine blk_put (cs := #[.bool true, .int .i64 ((rd_T34 l1 x12_1).f1), .int .i64 ((rd_T34 l1 x12_1).f2), .string (⟨#[]⟩ : ByteArray)]) ?_ 3 _ rfl; (with_reducible repeat (first | refine blk_drewN ?_ _ | refine blk_drew ?_ | refine blk_alloc ?_ _)); refine blk_put (cs := #[.bool true, .int .i64 ((rd_T34 l1 x12_1).f1), .int .i64 0, .string (⟨#[]⟩ : ByteArray)]) ?_ 2 _ rfl; (with_reducible repeat (first | refine blk_drewN ?_ _ | refine blk_drew ?_ | refine blk_alloc ?_ _)); refine blk_put (cs := #[.bool true, .int .i64 0, .int .i64 0, .string (⟨#[]⟩ : ByteArray)]) ?_ 1 _ rfl; (with_reducible repeat (first | refine blk_drewN ?_ _ | refine blk_drew ?_ | refine blk_alloc ?_ _)); refine blk_put (cs := #[.bool false, .int .i64 0, .int .i64 0, .string (⟨#[]⟩ : ByteArray)]) ?_ 0 _ rfl; (with_reducible repeat (first | refine blk_drewN ?_ _ | refine blk_drew ?_ | refine blk_alloc ?_ _)); exact zac.out) hb); have n2_ := M.upS HB hb; clear zaa zac HB; have zaa := n0_; have zac := n1_; have HB := n2_; clear n0_ n1_ n2_; (try clear hb); have zaD : w19.cell? ⟨zab, 0, none⟩ = some (.bool true) := (blk_cell zac.out 0).trans rfl; have zaE : w19.cell? ⟨zab, 1, none⟩ = some (.int .i64 ((rd_T34 l1 x12_1).f1)) := (blk_cell zac.out 1).trans rfl; have zaF : w19.cell? ⟨zab, 2, none⟩ = some (.int .i64 ((rd_T34 l1 x12_1).f2)) := (blk_cell zac.out 2).trans rfl; have zaG : w19.cell? ⟨zab, 3, none⟩ = some (.string ((rd_T34 l1 x12_1).f3)) := (blk_cell zac.out 3).trans rfl; have zaH := blk_frozen zac.out 0; have zaI := blk_frozen zac.out 1; have zaJ := blk_frozen zac.out 2; have zaK := blk_frozen zac.out 3; obtain ⟨Ao21, co21, eo21⟩ := Kd.R_slice zaa.out; subst eo21))
                    go_ret2
                    exact M.fin (M.up HB)
                  · rw [if_neg c16] at H
                    have c16b0 : decide ((a0.size : Int) < ((rd_T34 l1 x12_1).f1)) = false := decide_eq_false c16
                    clear c16
                    by_cases c22 : ((rd_T34 l1 x12_1).f2) > (wrap64 ((a0.size : Int) - ((rd_T34 l1 x12_1).f1)))
                    · rw [if_pos c22] at H
                      have c22b0 : decide ((wrap64 ((a0.size : Int) - ((rd_T34 l1 x12_1).f1))) < ((rd_T34 l1 x12_1).f2)) = true := decide_eq_true c22
                      clear c22
                      simp only [Option.some.injEq, Prod.mk.injEq] at H
                      obtain ⟨rfl, rfl⟩ := H
                      have p236 : 0 ≤ (x12_1 : Int) := of_decide_eq_true (by first | (with_reducible assumption) | assumption)
                      have q236 : x12_1 < (l1.length : Int) := of_decide_eq_true (by first | (with_reducible assumption) | assumption)
                      obtain ⟨ad236, e236, hx236_0, hx236_1, hx236_2, hx236_3⟩ := at_T34 HR1.out x12_1 p236 q236
                      (try rw [← Nbq14.out] at hx236_0)
                      cases e236
                      replace hx236_0 := (HB.out.cell (World.block_lt_of_cell? w _ hx236_0)).trans hx236_0
                      replace hx236_1 := (HB.out.cell (World.block_lt_of_cell? w _ hx236_1)).trans hx236_1
                      replace hx236_2 := (HB.out.cell (World.block_lt_of_cell? w _ hx236_2)).trans hx236_2
                      replace hx236_3 := (HB.out.cell (World.block_lt_of_cell? w _ hx236_3)).trans hx236_3
                      replace p236 := eq_true p236
                      replace q236 := eq_true q236
                      go_wp2_with (first | ((with_reducible refine gate_dst (N := 8) rfl ?_); (try (refine gate_guard (by rfl) ?_; dsimp only)); refine box_event ?hg (N := 8) ?hd (cs := #[.bool false, .int .i64 0, .int .i64 0, .string (⟨#[]⟩ : ByteArray)]) (t := 34) ?hr ?_; (case hd => rfl); (case hg => rfl); (case hr => first | (go_simp; done) | (go_simp; rfl)); intro zab hg w23 hbox hb; have n0_ := M.roB zaa hb; have n1_ := M.upS HB hb; have n2_ := Aside0.mk (hbox); have n3_ := M.upG HB hg; have n4_ := M.upG HB hg; clear zaa HB; have zaa := n0_; have HB := n1_; have zac := n2_; have zad := n3_; have zae := n4_; clear n0_ n1_ n2_ n3_ n4_; clear hb hbox hg; have zaL : w23.cell? ⟨zab, 0, none⟩ = some (.bool false) := (blk_cell zac.out 0).trans rfl; have zaM : w23.cell? ⟨zab, 1, none⟩ = some (.int .i64 0) := (blk_cell zac.out 1).trans rfl; have zaN : w23.cell? ⟨zab, 2, none⟩ = some (.int .i64 0) := (blk_cell zac.out 2).trans rfl; have zaO : w23.cell? ⟨zab, 3, none⟩ = some (.string (⟨#[]⟩ : ByteArray)) := (blk_cell zac.out 3).trans rfl; have zaP := blk_frozen zac.out 0; have zaQ := blk_frozen zac.out 1; have zaR := blk_frozen zac.out 2; have zaS := blk_frozen zac.out 3) | ((with_reducible refine gate_callee (f := 14) rfl ?_); refine M.goes (some 17) Try.func14 #[.agg #[.bool true, .int .i64 ((rd_T34 l1 x12_1).f1), .int .i64 ((rd_T34 l1 x12_1).f2), .string ((rd_T34 l1 x12_1).f3)]] rfl ?_; (with_reducible refine (delta_Check.calls true ((rd_T34 l1 x12_1).f1) ((rd_T34 l1 x12_1).f2) ((rd_T34 l1 x12_1).f3) t238 _ (by first | exact A6.out | (have q_ := A6.out; rw [← Nbq14.out] at q_; exact q_))).mono ?_); rintro e w25 ⟨rfl, hb⟩; refine ⟨_, rfl, ?_⟩; have n0_ := Aside0.mk (Kd.R_below (by (with_reducible repeat (first | apply Kd.R_alloc | apply Kd.R_drewN | apply Kd.R_drew)); exact (Kd.R_mono (Kd.R_far (p := ⟨zab, 3, none⟩) (Kd.R_far (p := ⟨zab, 2, none⟩) (Kd.R_far (p := ⟨zab, 1, none⟩) (Kd.R_far (p := ⟨zab, 0, none⟩) (Kd.R_types zaa.out zac.out (by decide)) (fun _ hk => hk.2) (.bool true)) (fun _ hk => hk.2) (.int .i64 ((rd_T34 l1 x12_1).f1))) (fun _ hk => hk.2) (.int .i64 ((rd_T34 l1 x12_1).f2))) (fun _ hk => hk.2) (.string ((rd_T34 l1 x12_1).f3))) (fun _ h_ => h_.1))) hb); have n1_ := Aside0.mk (blk_below (g := zab) (o := .cells #[.bool true, .int .i64 ((rd_T34 l1 x12_1).f1), .int .i64 ((rd_T34 l1 x12_1).f2), .string ((rd_T34 l1 x12_1).f3)] 34 (0, 0)) (by (with_reducible repeat (first | refine blk_drewN ?_ _ | refine blk_drew ?_ | refine blk_alloc ?_ _)); refine blk_put (cs := #[.bool true, .int .i64 ((rd_T34 l1 x12_1).f1), .int .i64 ((rd_T34 l1 x12_1).f2), .string (⟨#[]⟩ : ByteArray)]) ?_ 3 _ rfl; (with_reducible repeat (first | refine blk_drewN ?_ _ | refine blk_drew ?_ | refine blk_alloc ?_ _)); refine blk_put (cs := #[.bool true, .int .i64 ((rd_T34 l1 x12_1).f1), .int .i64 0, .string (⟨#[]⟩ : ByteArray)]) ?_ 2 _ rfl; (with_reducible repeat (first | refine blk_drewN ?_ _ | refine blk_drew ?_ | refine blk_alloc ?_ _)); refine blk_put (cs := #[.bool true, .int .i64 0, .int .i64 0, .string (⟨#[]⟩ : ByteArray)]) ?_ 1 _ rfl; (with_reducible repeat (first | refine blk_drewN ?_ _ | refine blk_drew ?_ | refine blk_alloc ?_ _)); refine blk_put (cs := #[.bool false, .int .i64 0, .int .i64 0, .string (⟨#[]⟩ : ByteArray)]) ?_ 0 _ rfl; (with_reducible repeat (first | refine blk_drewN ?_ _ | refine blk_drew ?_ | refine blk_alloc ?_ _)); exact zac.out) hb); have n2_ := M.upS HB hb; clear zaa zac HB; have zaa := n0_; have zac := n1_; have HB := n2_; clear n0_ n1_ n2_; (try clear hb); have zaT : w25.cell? ⟨zab, 0, none⟩ = some (.bool true) := (blk_cell zac.out 0).trans rfl; have zaU : w25.cell? ⟨zab, 1, none⟩ = some (.int .i64 ((rd_T34 l1 x12_1).f1)) := (blk_cell zac.out 1).trans rfl; have zaV : w25.cell? ⟨zab, 2, none⟩ = some (.int .i64 ((rd_T34 l1 x12_1).f2)) := (blk_cell zac.out 2).trans rfl; have zaW : w25.cell? ⟨zab, 3, none⟩ = some (.string ((rd_T34 l1 x12_1).f3)) := (blk_cell zac.out 3).trans rfl; have zaX := blk_frozen zac.out 0; have zaY := blk_frozen zac.out 1; have zaZ := blk_frozen zac.out 2; have za0 := blk_frozen zac.out 3; obtain ⟨Ao27, co27, eo27⟩ := Kd.R_slice zaa.out; subst eo27))
                      go_ret2
                      exact M.fin (M.up HB)
                    · rw [if_neg c22] at H
                      have c22b0 : decide ((wrap64 ((a0.size : Int) - ((rd_T34 l1 x12_1).f1))) < ((rd_T34 l1 x12_1).f2)) = false := decide_eq_false c22
                      clear c22
                      by_cases c28 : 0 ≤ ((rd_T34 l1 x12_1).f1)
                      · rw [if_pos c28] at H
                        have c28b0 := eq_true c28
                        have c28b1 : decide (0 ≤ ((rd_T34 l1 x12_1).f1)) = true := decide_eq_true c28
                        clear c28
                        by_cases c29 : ((rd_T34 l1 x12_1).f1) ≤ (wrap64 (((rd_T34 l1 x12_1).f1) + ((rd_T34 l1 x12_1).f2)))
                        · rw [if_pos c29] at H
                          have c29b0 := eq_true c29
                          have c29b1 : decide (((rd_T34 l1 x12_1).f1) ≤ (wrap64 (((rd_T34 l1 x12_1).f1) + ((rd_T34 l1 x12_1).f2)))) = true := decide_eq_true c29
                          by_cases c30 : (wrap64 (((rd_T34 l1 x12_1).f1) + ((rd_T34 l1 x12_1).f2))) ≤ (a0.size : Int)
                          · rw [if_pos c30] at H
                            have c30b0 := eq_true c30
                            have c30b1 : decide ((wrap64 (((rd_T34 l1 x12_1).f1) + ((rd_T34 l1 x12_1).f2))) ≤ (a0.size : Int)) = true := decide_eq_true c30
                            by_cases c31 : x6_1.length + (a0.extract (((rd_T34 l1 x12_1).f1) : Int).toNat ((wrap64 (((rd_T34 l1 x12_1).f1) + ((rd_T34 l1 x12_1).f2))) : Int).toNat).size < 140737488355328
                            · rw [if_pos c31] at H
                              have LMc31 := Aside0.mk c31
                              clear c31
                              obtain ⟨y242, hy242⟩ : ∃ y_ : List Int, y_ = (x6_1 ++ bytesOf (a0.extract (((rd_T34 l1 x12_1).f1) : Int).toNat ((wrap64 (((rd_T34 l1 x12_1).f1) + ((rd_T34 l1 x12_1).f2))) : Int).toNat)) := ⟨_, rfl⟩
                              replace H : (delta_Join_p.l0 k1 a0 y242 l1 (l1.length : Int) (wrap64 (x12_1 + 1))) = some (r1, r2) := by first | (rw [hy242]; with_reducible exact H) | (have H2_ := (Option.bind_some _ _).symm.trans H; rw [hy242]; with_reducible exact H2_) | (have H2_ := (Option.bind_some _ _).symm.trans H; with_reducible exact H2_) | with_reducible exact H | (rw [hy242]; exact H) | exact H
                              have Ny242 := Aside0.mk hy242
                              clear hy242
                              have H' := Aside0.mk H
                              clear H
                              have p236 : 0 ≤ (x12_1 : Int) := of_decide_eq_true (by first | (with_reducible assumption) | assumption)
                              have q236 : x12_1 < (l1.length : Int) := of_decide_eq_true (by first | (with_reducible assumption) | assumption)
                              obtain ⟨ad236, e236, hx236_0, hx236_1, hx236_2, hx236_3⟩ := at_T34 HR1.out x12_1 p236 q236
                              (try rw [← Nbq14.out] at hx236_0)
                              cases e236
                              replace hx236_0 := (HB.out.cell (World.block_lt_of_cell? w _ hx236_0)).trans hx236_0
                              replace hx236_1 := (HB.out.cell (World.block_lt_of_cell? w _ hx236_1)).trans hx236_1
                              replace hx236_2 := (HB.out.cell (World.block_lt_of_cell? w _ hx236_2)).trans hx236_2
                              replace hx236_3 := (HB.out.cell (World.block_lt_of_cell? w _ hx236_3)).trans hx236_3
                              replace p236 := eq_true p236
                              replace q236 := eq_true q236
                              go_wp2_with (first | ((with_reducible refine gate_dst (N := 8) rfl ?_); (try (refine gate_guard (by rfl) ?_; dsimp only)); refine box_event ?hg (N := 8) ?hd (cs := #[.bool false, .int .i64 0, .int .i64 0, .string (⟨#[]⟩ : ByteArray)]) (t := 34) ?hr ?_; (case hd => rfl); (case hg => rfl); (case hr => first | (go_simp; done) | (go_simp; rfl)); intro zab hg w32 hbox hb; have n0_ := M.roB zaa hb; have n1_ := M.upS HB hb; have n2_ := Aside0.mk (hbox); have n3_ := M.upG HB hg; have n4_ := M.upG HB hg; clear zaa HB; have zaa := n0_; have HB := n1_; have zac := n2_; have zad := n3_; have zae := n4_; clear n0_ n1_ n2_ n3_ n4_; clear hb hbox hg; have za1 : w32.cell? ⟨zab, 0, none⟩ = some (.bool false) := (blk_cell zac.out 0).trans rfl; have za2 : w32.cell? ⟨zab, 1, none⟩ = some (.int .i64 0) := (blk_cell zac.out 1).trans rfl; have za3 : w32.cell? ⟨zab, 2, none⟩ = some (.int .i64 0) := (blk_cell zac.out 2).trans rfl; have za4 : w32.cell? ⟨zab, 3, none⟩ = some (.string (⟨#[]⟩ : ByteArray)) := (blk_cell zac.out 3).trans rfl; have za5 := blk_frozen zac.out 0; have za6 := blk_frozen zac.out 1; have za7 := blk_frozen zac.out 2; have za8 := blk_frozen zac.out 3) | ((with_reducible refine gate_callee (f := 14) rfl ?_); refine M.goes (some 17) Try.func14 #[.agg #[.bool true, .int .i64 ((rd_T34 l1 x12_1).f1), .int .i64 ((rd_T34 l1 x12_1).f2), .string ((rd_T34 l1 x12_1).f3)]] rfl ?_; (with_reducible refine (delta_Check.calls true ((rd_T34 l1 x12_1).f1) ((rd_T34 l1 x12_1).f2) ((rd_T34 l1 x12_1).f3) t238 _ (by first | exact A6.out | (have q_ := A6.out; rw [← Nbq14.out] at q_; exact q_))).mono ?_); rintro e w34 ⟨rfl, hb⟩; refine ⟨_, rfl, ?_⟩; have n0_ := Aside0.mk (Kd.R_below (by (with_reducible repeat (first | apply Kd.R_alloc | apply Kd.R_drewN | apply Kd.R_drew)); exact (Kd.R_mono (Kd.R_far (p := ⟨zab, 3, none⟩) (Kd.R_far (p := ⟨zab, 2, none⟩) (Kd.R_far (p := ⟨zab, 1, none⟩) (Kd.R_far (p := ⟨zab, 0, none⟩) (Kd.R_types zaa.out zac.out (by decide)) (fun _ hk => hk.2) (.bool true)) (fun _ hk => hk.2) (.int .i64 ((rd_T34 l1 x12_1).f1))) (fun _ hk => hk.2) (.int .i64 ((rd_T34 l1 x12_1).f2))) (fun _ hk => hk.2) (.string ((rd_T34 l1 x12_1).f3))) (fun _ h_ => h_.1))) hb); have n1_ := Aside0.mk (blk_below (g := zab) (o := .cells #[.bool true, .int .i64 ((rd_T34 l1 x12_1).f1), .int .i64 ((rd_T34 l1 x12_1).f2), .string ((rd_T34 l1 x12_1).f3)] 34 (0, 0)) (by (with_reducible repeat (first | refine blk_drewN ?_ _ | refine blk_drew ?_ | refine blk_alloc ?_ _)); refine blk_put (cs := #[.bool true, .int .i64 ((rd_T34 l1 x12_1).f1), .int .i64 ((rd_T34 l1 x12_1).f2), .string (⟨#[]⟩ : ByteArray)]) ?_ 3 _ rfl; (with_reducible repeat (first | refine blk_drewN ?_ _ | refine blk_drew ?_ | refine blk_alloc ?_ _)); refine blk_put (cs := #[.bool true, .int .i64 ((rd_T34 l1 x12_1).f1), .int .i64 0, .string (⟨#[]⟩ : ByteArray)]) ?_ 2 _ rfl; (with_reducible repeat (first | refine blk_drewN ?_ _ | refine blk_drew ?_ | refine blk_alloc ?_ _)); refine blk_put (cs := #[.bool true, .int .i64 0, .int .i64 0, .string (⟨#[]⟩ : ByteArray)]) ?_ 1 _ rfl; (with_reducible repeat (first | refine blk_drewN ?_ _ | refine blk_drew ?_ | refine blk_alloc ?_ _)); refine blk_put (cs := #[.bool false, .int .i64 0, .int .i64 0, .string (⟨#[]⟩ : ByteArray)]) ?_ 0 _ rfl; (with_reducible repeat (first | refine blk_drewN ?_ _ | refine blk_drew ?_ | refine blk_alloc ?_ _)); exact zac.out) hb); have n2_ := M.upS HB hb; clear zaa zac HB; have zaa := n0_; have zac := n1_; have HB := n2_; clear n0_ n1_ n2_; (try clear hb); have za9 : w34.cell? ⟨zab, 0, none⟩ = some (.bool true) := (blk_cell zac.out 0).trans rfl; have zba : w34.cell? ⟨zab, 1, none⟩ = some (.int .i64 ((rd_T34 l1 x12_1).f1)) := (blk_cell zac.out 1).trans rfl; have zbb : w34.cell? ⟨zab, 2, none⟩ = some (.int .i64 ((rd_T34 l1 x12_1).f2)) := (blk_cell zac.out 2).trans rfl; have zbc : w34.cell? ⟨zab, 3, none⟩ = some (.string ((rd_T34 l1 x12_1).f3)) := (blk_cell zac.out 3).trans rfl; have zbd := blk_frozen zac.out 0; have zbe := blk_frozen zac.out 1; have zbf := blk_frozen zac.out 2; have zbg := blk_frozen zac.out 3; obtain ⟨Ao36, co36, eo36⟩ := Kd.R_slice zaa.out; subst eo36) | (at_builtin; refine print_append_str (w0 := w) w.heap.size rfl (.tmp 49) _ 54 9 5 rfl Try.underlying54 Try.underlying9 info5 (.slice Ao36 x6_1.length co36) x6_1 (a0.extract (((rd_T34 l1 x12_1).f1) : Int).toNat ((wrap64 (((rd_T34 l1 x12_1).f1) + ((rd_T34 l1 x12_1).f2))) : Int).toNat) rfl rfl ?aO ?aB ?aS ?aL ?_; (case aB => exact (M.up HB)); (case aO => exact (Kd.own_of_R (M.ro zaa))); (case aS => exact (below_size (M.up HB))); (case aL => have := LMc31.out; omega); intro v243 w37 ho0 hb hg; have ho := Kd.R_of_own (h1 := fun _ => rfl) (ok := fun _ => True) ho0 (fun _ _ => trivial); clear ho0; have hat := True.intro; rw [← Ny242.out] at ho; change Kd.R (Kd.int .u8) 5 w37 w.heap.size (fun _ => True) v243 y242 at ho; have n0_ := Aside0.mk (blk_grown (g := zab) (o := .cells #[.bool true, .int .i64 ((rd_T34 l1 x12_1).f1), .int .i64 ((rd_T34 l1 x12_1).f2), .string ((rd_T34 l1 x12_1).f3)] 34 (0, 0)) (M.bk zac) hg (Kd.R_ne zaa.out zac.out (by decide))); have n1_ := Aside0.mk (hb); have n2_ := Aside0.mk (ho); clear zac HB zaa; have zac := n0_; have HB := n1_; have HO244 := n2_; clear n0_ n1_ n2_; clear ho hb hg hat))
                              go_roundg k1
                              case measure => have := HK1.out; omega
                              case rel => exact ⟨(y242), (wrap64 (x12_1 + 1)), (by first | rfl | (simp; done) | (simp [*]; done) | (simp [M.isEmpty_bne]; done)), H', ⟨by have := HK1.out; omega⟩, ⟨by (with_reducible repeat (first | apply Kd.R_alloc | apply Kd.R_drewN | apply Kd.R_drew)); exact HO244.out⟩, ⟨M.up HB⟩⟩
                            · rw [if_neg c31] at H
                              exact absurd H (by simp)
                          · rw [if_neg c30] at H
                            exact absurd H (by simp)
                        · rw [if_neg c29] at H
                          exact absurd H (by simp)
                      · rw [if_neg c28] at H
                        exact absurd H (by simp)
                · replace c15 := Bool.eq_false_iff.mpr c15
                  subst c15
                  have H1 : (if x6_1.length + ((rd_T34 l1 x12_1).f3).size < 140737488355328 then (delta_Join_p.l0 k1 a0 (x6_1 ++ bytesOf ((rd_T34 l1 x12_1).f3)) l1 (l1.length : Int) (wrap64 (x12_1 + 1))) else (none)) = some (r1, r2) := by rw [if_neg (show ¬ (false = true) by decide)] at H; exact H
                  clear H
                  have H := H1
                  clear H1
                  by_cases c38 : x6_1.length + ((rd_T34 l1 x12_1).f3).size < 140737488355328
                  · rw [if_pos c38] at H
                    have LMc38 := Aside0.mk c38
                    clear c38
                    obtain ⟨y239, hy239⟩ : ∃ y_ : List Int, y_ = (x6_1 ++ bytesOf ((rd_T34 l1 x12_1).f3)) := ⟨_, rfl⟩
                    replace H : (delta_Join_p.l0 k1 a0 y239 l1 (l1.length : Int) (wrap64 (x12_1 + 1))) = some (r1, r2) := by first | (rw [hy239]; with_reducible exact H) | (have H2_ := (Option.bind_some _ _).symm.trans H; rw [hy239]; with_reducible exact H2_) | (have H2_ := (Option.bind_some _ _).symm.trans H; with_reducible exact H2_) | with_reducible exact H | (rw [hy239]; exact H) | exact H
                    have Ny239 := Aside0.mk hy239
                    clear hy239
                    have H' := Aside0.mk H
                    clear H
                    have p236 : 0 ≤ (x12_1 : Int) := of_decide_eq_true (by first | (with_reducible assumption) | assumption)
                    have q236 : x12_1 < (l1.length : Int) := of_decide_eq_true (by first | (with_reducible assumption) | assumption)
                    obtain ⟨ad236, e236, hx236_0, hx236_1, hx236_2, hx236_3⟩ := at_T34 HR1.out x12_1 p236 q236
                    (try rw [← Nbq14.out] at hx236_0)
                    cases e236
                    replace hx236_0 := (HB.out.cell (World.block_lt_of_cell? w _ hx236_0)).trans hx236_0
                    replace hx236_1 := (HB.out.cell (World.block_lt_of_cell? w _ hx236_1)).trans hx236_1
                    replace hx236_2 := (HB.out.cell (World.block_lt_of_cell? w _ hx236_2)).trans hx236_2
                    replace hx236_3 := (HB.out.cell (World.block_lt_of_cell? w _ hx236_3)).trans hx236_3
                    replace p236 := eq_true p236
                    replace q236 := eq_true q236
                    go_wp2_with (first | ((with_reducible refine gate_dst (N := 8) rfl ?_); (try (refine gate_guard (by rfl) ?_; dsimp only)); refine box_event ?hg (N := 8) ?hd (cs := #[.bool false, .int .i64 0, .int .i64 0, .string (⟨#[]⟩ : ByteArray)]) (t := 34) ?hr ?_; (case hd => rfl); (case hg => rfl); (case hr => first | (go_simp; done) | (go_simp; rfl)); intro zab hg w39 hbox hb; have n0_ := M.roB zaa hb; have n1_ := M.upS HB hb; have n2_ := Aside0.mk (hbox); have n3_ := M.upG HB hg; have n4_ := M.upG HB hg; clear zaa HB; have zaa := n0_; have HB := n1_; have zac := n2_; have zad := n3_; have zae := n4_; clear n0_ n1_ n2_ n3_ n4_; clear hb hbox hg; have zbh : w39.cell? ⟨zab, 0, none⟩ = some (.bool false) := (blk_cell zac.out 0).trans rfl; have zbi : w39.cell? ⟨zab, 1, none⟩ = some (.int .i64 0) := (blk_cell zac.out 1).trans rfl; have zbj : w39.cell? ⟨zab, 2, none⟩ = some (.int .i64 0) := (blk_cell zac.out 2).trans rfl; have zbk : w39.cell? ⟨zab, 3, none⟩ = some (.string (⟨#[]⟩ : ByteArray)) := (blk_cell zac.out 3).trans rfl; have zbl := blk_frozen zac.out 0; have zbm := blk_frozen zac.out 1; have zbn := blk_frozen zac.out 2; have zbo := blk_frozen zac.out 3) | ((with_reducible refine gate_callee (f := 14) rfl ?_); refine M.goes (some 17) Try.func14 #[.agg #[.bool false, .int .i64 ((rd_T34 l1 x12_1).f1), .int .i64 ((rd_T34 l1 x12_1).f2), .string ((rd_T34 l1 x12_1).f3)]] rfl ?_; (with_reducible refine (delta_Check.calls false ((rd_T34 l1 x12_1).f1) ((rd_T34 l1 x12_1).f2) ((rd_T34 l1 x12_1).f3) t238 _ (by first | exact A6.out | (have q_ := A6.out; rw [← Nbq14.out] at q_; exact q_))).mono ?_); rintro e w41 ⟨rfl, hb⟩; refine ⟨_, rfl, ?_⟩; have n0_ := Aside0.mk (Kd.R_below (by (with_reducible repeat (first | apply Kd.R_alloc | apply Kd.R_drewN | apply Kd.R_drew)); exact (Kd.R_mono (Kd.R_far (p := ⟨zab, 3, none⟩) (Kd.R_far (p := ⟨zab, 2, none⟩) (Kd.R_far (p := ⟨zab, 1, none⟩) (Kd.R_far (p := ⟨zab, 0, none⟩) (Kd.R_types zaa.out zac.out (by decide)) (fun _ hk => hk.2) (.bool false)) (fun _ hk => hk.2) (.int .i64 ((rd_T34 l1 x12_1).f1))) (fun _ hk => hk.2) (.int .i64 ((rd_T34 l1 x12_1).f2))) (fun _ hk => hk.2) (.string ((rd_T34 l1 x12_1).f3))) (fun _ h_ => h_.1))) hb); have n1_ := Aside0.mk (blk_below (g := zab) (o := .cells #[.bool false, .int .i64 ((rd_T34 l1 x12_1).f1), .int .i64 ((rd_T34 l1 x12_1).f2), .string ((rd_T34 l1 x12_1).f3)] 34 (0, 0)) (by (with_reducible repeat (first | refine blk_drewN ?_ _ | refine blk_drew ?_ | refine blk_alloc ?_ _)); refine blk_put (cs := #[.bool false, .int .i64 ((rd_T34 l1 x12_1).f1), .int .i64 ((rd_T34 l1 x12_1).f2), .string (⟨#[]⟩ : ByteArray)]) ?_ 3 _ rfl; (with_reducible repeat (first | refine blk_drewN ?_ _ | refine blk_drew ?_ | refine blk_alloc ?_ _)); refine blk_put (cs := #[.bool false, .int .i64 ((rd_T34 l1 x12_1).f1), .int .i64 0, .string (⟨#[]⟩ : ByteArray)]) ?_ 2 _ rfl; (with_reducible repeat (first | refine blk_drewN ?_ _ | refine blk_drew ?_ | refine blk_alloc ?_ _)); refine blk_put (cs := #[.bool false, .int .i64 0, .int .i64 0, .string (⟨#[]⟩ : ByteArray)]) ?_ 1 _ rfl; (with_reducible repeat (first | refine blk_drewN ?_ _ | refine blk_drew ?_ | refine blk_alloc ?_ _)); refine blk_put (cs := #[.bool false, .int .i64 0, .int .i64 0, .string (⟨#[]⟩ : ByteArray)]) ?_ 0 _ rfl; (with_reducible repeat (first | refine blk_drewN ?_ _ | refine blk_drew ?_ | refine blk_alloc ?_ _)); exact zac.out) hb); have n2_ := M.upS HB hb; clear zaa zac HB; have zaa := n0_; have zac := n1_; have HB := n2_; clear n0_ n1_ n2_; (try clear hb); have zbp : w41.cell? ⟨zab, 0, none⟩ = some (.bool false) := (blk_cell zac.out 0).trans rfl; have zbq : w41.cell? ⟨zab, 1, none⟩ = some (.int .i64 ((rd_T34 l1 x12_1).f1)) := (blk_cell zac.out 1).trans rfl; have zbr : w41.cell? ⟨zab, 2, none⟩ = some (.int .i64 ((rd_T34 l1 x12_1).f2)) := (blk_cell zac.out 2).trans rfl; have zbs : w41.cell? ⟨zab, 3, none⟩ = some (.string ((rd_T34 l1 x12_1).f3)) := (blk_cell zac.out 3).trans rfl; have zbt := blk_frozen zac.out 0; have zbu := blk_frozen zac.out 1; have zbv := blk_frozen zac.out 2; have zbw := blk_frozen zac.out 3; obtain ⟨Ao43, co43, eo43⟩ := Kd.R_slice zaa.out; subst eo43) | (at_builtin; refine print_append_str (w0 := w) w.heap.size rfl (.tmp 30) _ 54 9 5 rfl Try.underlying54 Try.underlying9 info5 (.slice Ao43 x6_1.length co43) x6_1 ((rd_T34 l1 x12_1).f3) rfl rfl ?aO ?aB ?aS ?aL ?_; (case aB => exact (M.up HB)); (case aO => exact (Kd.own_of_R (M.ro zaa))); (case aS => exact (below_size (M.up HB))); (case aL => have := LMc38.out; omega); intro v240 w44 ho0 hb hg; have ho := Kd.R_of_own (h1 := fun _ => rfl) (ok := fun _ => True) ho0 (fun _ _ => trivial); clear ho0; have hat := True.intro; rw [← Ny239.out] at ho; change Kd.R (Kd.int .u8) 5 w44 w.heap.size (fun _ => True) v240 y239 at ho; have n0_ := Aside0.mk (blk_grown (g := zab) (o := .cells #[.bool false, .int .i64 ((rd_T34 l1 x12_1).f1), .int .i64 ((rd_T34 l1 x12_1).f2), .string ((rd_T34 l1 x12_1).f3)] 34 (0, 0)) (M.bk zac) hg (Kd.R_ne zaa.out zac.out (by decide))); have n1_ := Aside0.mk (hb); have n2_ := Aside0.mk (ho); clear zac HB zaa; have zac := n0_; have HB := n1_; have HO241 := n2_; clear n0_ n1_ n2_; clear ho hb hg hat))
                    go_roundg k1
                    case measure => have := HK1.out; omega
                    case rel => exact ⟨(y239), (wrap64 (x12_1 + 1)), (by first | rfl | (simp; done) | (simp [*]; done) | (simp [M.isEmpty_bne]; done)), H', ⟨by have := HK1.out; omega⟩, ⟨by (with_reducible repeat (first | apply Kd.R_alloc | apply Kd.R_drewN | apply Kd.R_drew)); exact HO241.out⟩, ⟨M.up HB⟩⟩
                  · rw [if_neg c38] at H
                    exact absurd H (by simp)
            · rw [if_neg c7] at H
              have c7b0 : (t238 == 0) = false := beq_eq_false_iff_ne.mpr c7
              have c7b1 : (t238 != 0) = true := bne_iff_ne.mpr c7
              simp only [Option.some.injEq, Prod.mk.injEq] at H
              obtain ⟨rfl, rfl⟩ := H
              have p236 : 0 ≤ (x12_1 : Int) := of_decide_eq_true (by first | (with_reducible assumption) | assumption)
              have q236 : x12_1 < (l1.length : Int) := of_decide_eq_true (by first | (with_reducible assumption) | assumption)
              obtain ⟨ad236, e236, hx236_0, hx236_1, hx236_2, hx236_3⟩ := at_T34 HR1.out x12_1 p236 q236
              cases e236
              replace hx236_0 := (HB.out.cell (World.block_lt_of_cell? w _ hx236_0)).trans hx236_0
              replace hx236_1 := (HB.out.cell (World.block_lt_of_cell? w _ hx236_1)).trans hx236_1
              replace hx236_2 := (HB.out.cell (World.block_lt_of_cell? w _ hx236_2)).trans hx236_2
              replace hx236_3 := (HB.out.cell (World.block_lt_of_cell? w _ hx236_3)).trans hx236_3
              replace p236 := eq_true p236
              replace q236 := eq_true q236
              go_wp2_with (first | ((with_reducible refine gate_dst (N := 8) rfl ?_); (try (refine gate_guard (by rfl) ?_; dsimp only)); refine box_event ?hg (N := 8) ?hd (cs := #[.bool false, .int .i64 0, .int .i64 0, .string (⟨#[]⟩ : ByteArray)]) (t := 34) ?hr ?_; (case hd => rfl); (case hg => rfl); (case hr => first | (go_simp; done) | (go_simp; rfl)); intro zab hg w45 hbox hb; have n0_ := M.roB zaa hb; have n1_ := M.upS HB hb; have n2_ := Aside0.mk (hbox); have n3_ := M.upG HB hg; have n4_ := M.upG HB hg; clear zaa HB; have zaa := n0_; have HB := n1_; have zac := n2_; have zad := n3_; have zae := n4_; clear n0_ n1_ n2_ n3_ n4_; clear hb hbox hg; have zbx : w45.cell? ⟨zab, 0, none⟩ = some (.bool false) := (blk_cell zac.out 0).trans rfl; have zby : w45.cell? ⟨zab, 1, none⟩ = some (.int .i64 0) := (blk_cell zac.out 1).trans rfl; have zbz : w45.cell? ⟨zab, 2, none⟩ = some (.int .i64 0) := (blk_cell zac.out 2).trans rfl; have zbA : w45.cell? ⟨zab, 3, none⟩ = some (.string (⟨#[]⟩ : ByteArray)) := (blk_cell zac.out 3).trans rfl; have zbB := blk_frozen zac.out 0; have zbC := blk_frozen zac.out 1; have zbD := blk_frozen zac.out 2; have zbE := blk_frozen zac.out 3) | ((with_reducible refine gate_callee (f := 14) rfl ?_); refine M.goes (some 17) Try.func14 #[.agg #[.bool ((rd_T34 l1 x12_1).f0), .int .i64 ((rd_T34 l1 x12_1).f1), .int .i64 ((rd_T34 l1 x12_1).f2), .string ((rd_T34 l1 x12_1).f3)]] rfl ?_; (with_reducible refine (delta_Check.calls ((rd_T34 l1 x12_1).f0) ((rd_T34 l1 x12_1).f1) ((rd_T34 l1 x12_1).f2) ((rd_T34 l1 x12_1).f3) t238 _ A6.out).mono ?_); rintro e w47 ⟨rfl, hb⟩; refine ⟨_, rfl, ?_⟩; have n0_ := Aside0.mk (Kd.R_below (by (with_reducible repeat (first | apply Kd.R_alloc | apply Kd.R_drewN | apply Kd.R_drew)); exact (Kd.R_mono (Kd.R_far (p := ⟨zab, 3, none⟩) (Kd.R_far (p := ⟨zab, 2, none⟩) (Kd.R_far (p := ⟨zab, 1, none⟩) (Kd.R_far (p := ⟨zab, 0, none⟩) (Kd.R_types zaa.out zac.out (by decide)) (fun _ hk => hk.2) (.bool ((rd_T34 l1 x12_1).f0))) (fun _ hk => hk.2) (.int .i64 ((rd_T34 l1 x12_1).f1))) (fun _ hk => hk.2) (.int .i64 ((rd_T34 l1 x12_1).f2))) (fun _ hk => hk.2) (.string ((rd_T34 l1 x12_1).f3))) (fun _ h_ => h_.1))) hb); have n1_ := Aside0.mk (blk_below (g := zab) (o := .cells #[.bool ((rd_T34 l1 x12_1).f0), .int .i64 ((rd_T34 l1 x12_1).f1), .int .i64 ((rd_T34 l1 x12_1).f2), .string ((rd_T34 l1 x12_1).f3)] 34 (0, 0)) (by (with_reducible repeat (first | refine blk_drewN ?_ _ | refine blk_drew ?_ | refine blk_alloc ?_ _)); refine blk_put (cs := #[.bool ((rd_T34 l1 x12_1).f0), .int .i64 ((rd_T34 l1 x12_1).f1), .int .i64 ((rd_T34 l1 x12_1).f2), .string (⟨#[]⟩ : ByteArray)]) ?_ 3 _ rfl; (with_reducible repeat (first | refine blk_drewN ?_ _ | refine blk_drew ?_ | refine blk_alloc ?_ _)); refine blk_put (cs := #[.bool ((rd_T34 l1 x12_1).f0), .int .i64 ((rd_T34 l1 x12_1).f1), .int .i64 0, .string (⟨#[]⟩ : ByteArray)]) ?_ 2 _ rfl; (with_reducible repeat (first | refine blk_drewN ?_ _ | refine blk_drew ?_ | refine blk_alloc ?_ _)); refine blk_put (cs := #[.bool ((rd_T34 l1 x12_1).f0), .int .i64 0, .int .i64 0, .string (⟨#[]⟩ : ByteArray)]) ?_ 1 _ rfl; (with_reducible repeat (first | refine blk_drewN ?_ _ | refine blk_drew ?_ | refine blk_alloc ?_ _)); refine blk_put (cs := #[.bool false, .int .i64 0, .int .i64 0, .string (⟨#[]⟩ : ByteArray)]) ?_ 0 _ rfl; (with_reducible repeat (first | refine blk_drewN ?_ _ | refine blk_drew ?_ | refine blk_alloc ?_ _)); exact zac.out) hb); have n2_ := M.upS HB hb; clear zaa zac HB; have zaa := n0_; have zac := n1_; have HB := n2_; clear n0_ n1_ n2_; (try clear hb)))
              go_ret2
              exact M.fin (M.up HB)
          · rw [if_neg c5] at H
            exact absurd H (by simp)
        · rw [if_neg c4] at H
          exact absurd H (by simp)
      · rw [if_neg c3] at H
        have c3b0 : decide (x12_1 < (l1.length : Int)) = false := decide_eq_false c3
        clear c3
        simp only [Option.some.injEq, Prod.mk.injEq] at H
        obtain ⟨rfl, rfl⟩ := H
        have hcv48 := own_string (P := Try.prog) Try.underlying54 Try.underlying5 Try.underlying9 (Kd.own_of_R zaa.out)
        go_wp2
        go_ret2
        exact M.fin (M.up HB)

-- this session's own plain form
def delta_Join.pc (x : S34) : M.Pc := (x.f0, x.f1, x.f2, x.f3)
def delta_Join.f (base : ByteArray) (l : List S34) : Option (ByteArray × Int) :=
  if base.size ≤ 1000000000 ∧ l.length ≤ 1000000000 then some (M.sb (M.djoin base [] (l.map delta_Join.pc)).1, (M.djoin base [] (l.map delta_Join.pc)).2) else none
theorem delta_Join.app (a b : ByteArray) : bytesOf (a ++ b) = bytesOf a ++ bytesOf b := by
  have : M.bs (a ++ b) = M.bs a ++ M.bs b := M.bs_append a b
  unfold bytesOf
  rw [show (a ++ b).data.toList = a.data.toList ++ b.data.toList from this, List.map_append]
theorem delta_Join.back (s : ByteArray) : strOfNums (bytesOf s) = s := by
  apply M.bs_inj
  have h := M.strOfNums_nat ((M.bs s).map UInt8.toNat)
  rw [List.map_map] at h
  have e : bytesOf s = List.map ((fun (n : Nat) => (n : Int)) ∘ UInt8.toNat) (M.bs s) := rfl
  rw [e, h, List.map_map]
  have e2 : (UInt8.ofNat ∘ UInt8.toNat) = (id : UInt8 → UInt8) := by funext x; simp
  rw [e2, List.map_id]
theorem delta_Join.cut (base : ByteArray) (a n : Int) (ha : 0 ≤ a) (hn : 0 ≤ n) : M.bs (base.extract a.toNat (a + n).toNat) = ((M.bs base).drop a.toNat).take n.toNat := by
  rw [M.bs_extract]; congr 1; omega
theorem delta_Join.loop (base : ByteArray) (l : List S34) (hb : base.size ≤ 1000000000) (hc : l.length ≤ 1000000000) (d : Nat) : ∀ (i : Nat) (acc : ByteArray), i + d = l.length → acc.size ≤ 65536 →
    delta_Join_p.l0 (d + 1) base (bytesOf acc) l (l.length : Int) (i : Int) = some (M.sb (M.djoin base (M.bs acc) ((l.drop i).map delta_Join.pc)).1, (M.djoin base (M.bs acc) ((l.drop i).map delta_Join.pc)).2) := by
  induction d with
  | zero =>
    intro i acc hi _
    rw [delta_Join_p.l0, if_neg (by omega), List.drop_of_length_le (by omega)]
    rw [List.map_nil, M.djoin, M.sb_bs, delta_Join.back]
  | succ d ih =>
    intro i acc hi hz
    have hlt : i < l.length := by omega
    have hrd : rd_T34 l (i : Int) = l[i] := by simp [rd_T34, List.getD, hlt]
    rw [delta_Join_p.l0, if_pos (by omega), if_pos (by omega), if_pos (by omega), hrd]
    rw [List.drop_eq_getElem_cons hlt, List.map_cons]
    have ih := ih (i + 1)
    rw [show ((i + 1 : Nat) : Int) = (i : Int) + 1 from by omega] at ih
    rw [M.wrap64_id (i := (i : Int) + 1) (by omega) (by omega)]
    generalize l[i] = x
    obtain ⟨c, a, n, o⟩ := x
    show (delta_Check.f c a n o).bind _ = _
    rw [delta_Check.f, Option.bind_some]
    by_cases hp : M.pok c a n o = true
    · have hk : M.pk (delta_Join.pc ⟨c, a, n, o⟩) = true := hp
      have hl := M.pok_len hp
      rw [if_pos hp, if_pos rfl, M.djoin, if_pos hk, M.bs_length, bytesOf_length]
      show (if n > wrap64 (65536 - (acc.size : Int)) then _ else _) = some (M.sb (if (acc.size : Int) + n > 65536 then ([], 5) else if c = true then (if a + n > (base.size : Int) then ([], 8) else M.djoin base (M.bs acc ++ ((M.bs base).drop a.toNat).take n.toNat) _) else M.djoin base (M.bs acc ++ M.bs o) _).1, (if (acc.size : Int) + n > 65536 then ([], 5) else if c = true then (if a + n > (base.size : Int) then ([], 8) else M.djoin base (M.bs acc ++ ((M.bs base).drop a.toNat).take n.toNat) _) else M.djoin base (M.bs acc ++ M.bs o) _).2)
      rw [M.wrap64_id (i := 65536 - (acc.size : Int)) (by omega) (by omega)]
      by_cases h5 : (acc.size : Int) + n > 65536
      · rw [if_pos (show n > 65536 - (acc.size : Int) by omega)]; simp only [if_pos h5]; rfl
      · rw [if_neg (show ¬ n > 65536 - (acc.size : Int) by omega)]
        simp only [if_neg h5]
        cases c with
        | true =>
          have hc2 := M.pok_copy hp
          rw [if_pos rfl]
          simp only [if_true]
          show (if a > (base.size : Int) then _ else if n > wrap64 ((base.size : Int) - a) then _ else if 0 ≤ a then (if a ≤ wrap64 (a + n) then (if wrap64 (a + n) ≤ (base.size : Int) then (if acc.size + (base.extract a.toNat (wrap64 (a + n)).toNat).size < 140737488355328 then delta_Join_p.l0 (d + 1) base (bytesOf acc ++ bytesOf (base.extract a.toNat (wrap64 (a + n)).toNat)) l (l.length : Int) ((i : Int) + 1) else none) else none) else none) else none) = _
          rw [M.wrap64_id (i := a + n) (by omega) (by omega)]
          by_cases h7 : a > (base.size : Int)
          · rw [if_pos h7]; simp only [if_pos (show a + n > (base.size : Int) by omega)]; rfl
          · rw [if_neg h7, M.wrap64_id (i := (base.size : Int) - a) (by omega) (by omega)]
            by_cases h8 : a + n > (base.size : Int)
            · rw [if_pos (show n > (base.size : Int) - a by omega)]; simp only [if_pos h8]; rfl
            · have hsz : (base.extract a.toNat (a + n).toNat).size = n.toNat := by rw [ByteArray.size_extract]; omega
              rw [if_neg (show ¬ n > (base.size : Int) - a by omega), if_pos hc2.2.2.1, if_pos (by omega), if_pos (by omega), if_pos (by rw [hsz]; omega), ← delta_Join.app, ih _ (by omega) (by rw [M.size_append, hsz]; omega), M.bs_append, delta_Join.cut base a n (by omega) (by omega)]
              simp only [if_neg h8]
        | false =>
          have hc2 := M.pok_own hp
          rw [if_neg (show ¬ false = true by simp)]
          simp only [Bool.false_eq_true, if_false]
          show (if acc.size + o.size < 140737488355328 then delta_Join_p.l0 (d + 1) base (bytesOf acc ++ bytesOf o) l (l.length : Int) ((i : Int) + 1) else none) = _
          rw [if_pos (by omega), ← delta_Join.app, ih _ (by omega) (by rw [M.size_append]; omega), M.bs_append]
    · rw [if_neg hp, if_neg (by decide), M.djoin, if_neg (show ¬ M.pk (delta_Join.pc ⟨c, a, n, o⟩) = true from hp)]
      rfl
theorem delta_Join.ev (base : ByteArray) (l : List S34) (r : ByteArray × Int) (h : delta_Join.f base l = some r) : ∃ k, delta_Join_p.f k base l = some r := by
  unfold delta_Join.f at h
  split at h
  case isFalse => cases h
  case isTrue hh =>
    have := delta_Join.loop base l hh.1 hh.2 l.length 0 ⟨#[]⟩ (by omega) (by decide)
    rw [List.drop_zero, show bytesOf (⟨#[]⟩ : ByteArray) = [] from rfl] at this
    refine ⟨l.length + 1, ?_⟩
    unfold delta_Join_p.f
    rw [show (0 : Int) = ((0 : Nat) : Int) from rfl, this, ← h]
    rfl
theorem delta_Join.calls (a0 : ByteArray) (A1 : Option Addr) (c1 : Nat) (l1 : List (S34)) (r1 : ByteArray) (r2 : Int) (w : World) (hr1 : Kd.C k34 w A1 l1.length l1) (hc1 : l1.length ≤ c1) (h : delta_Join.f a0 l1 = some (r1, r2)) :
    Calls Try.prog 17 #[.string a0, .slice A1 l1.length c1] w fun e w' => e = .returned (.tuple #[.string r1, .int .i64 r2]) ∧ Below w.heap.size w w' := by
  obtain ⟨k, hk⟩ := delta_Join.ev _ _ _ h
  exact delta_Join_p.calls (k := k) (w := w) (h := hk) (hr1 := hr1) (hc1 := hc1)

/-! ### delta_Apply: function 21 -/
def delta_Apply.f (a0 : ByteArray) (a1 : ByteArray) : Option (ByteArray × Int) := (delta_Take.f a1).bind fun bt245 => (if bt245.2 = 0 then ((delta_Join.f a0 bt245.1).bind fun bt249 => (some (bt249.1, bt249.2))) else (some ((⟨#[]⟩ : ByteArray), bt245.2)))
set_option maxHeartbeats 8000000 in
set_option maxRecDepth 100000 in
theorem delta_Apply.calls (a0 : ByteArray) (a1 : ByteArray) (r1 : ByteArray) (r2 : Int) (w : World) (h : delta_Apply.f a0 a1 = some (r1, r2)) :
    Calls Try.prog 21 #[.string a0, .string a1] w fun e w' => e = .returned (.tuple #[.string r1, .int .i64 r2]) ∧ Below w.heap.size w w' := by
  have HB := Aside0.mk (Below.refl w.heap.size w)
  have H : ((delta_Take.f a1).bind fun bt245 => (if bt245.2 = 0 then ((delta_Join.f a0 bt245.1).bind fun bt249 => (some (bt249.1, bt249.2))) else (some ((⟨#[]⟩ : ByteArray), bt245.2)))) = some (r1, r2) := h
  clear h
  replace H := Option.bind_eq_some_iff.mp H
  obtain ⟨⟨t245, t246⟩, A30, H⟩ := H
  replace H : (if t246 = 0 then ((delta_Join.f a0 t245).bind fun bt249 => (some (bt249.1, bt249.2))) else (some ((⟨#[]⟩ : ByteArray), t246))) = some (r1, r2) := H
  have A3 := Aside0.mk A30
  clear A30
  by_cases c4 : t246 = 0
  · rw [if_pos c4] at H
    have c4b0 : (t246 == 0) = true := beq_iff_eq.mpr c4
    have c4b1 : (t246 != 0) = false := bne_eq_false_iff_eq.mpr c4
    clear c4
    replace H := Option.bind_eq_some_iff.mp H
    obtain ⟨⟨t249, t250⟩, A50, H⟩ := H
    replace H : (some (t249, t250)) = some (r1, r2) := H
    have A5 := Aside0.mk A50
    clear A50
    simp only [Option.some.injEq, Prod.mk.injEq] at H
    obtain ⟨rfl, rfl⟩ := H
    go_enter Try.func21, Try.ntmps21
    go_wp2_with (first | ((with_reducible refine gate_callee (f := 19) rfl ?_); refine M.goes (some 10) Try.func19 #[.string a1] rfl ?_; (with_reducible refine (delta_Take.calls a1 t245 t246 _ A3.out).mono ?_); rintro e w6 ⟨v247, rfl, ho0, hb⟩; refine ⟨_, rfl, ?_⟩; have n0_ := Aside0.mk (Kd.R_lower ho0 (below_size (M.up HB))); have n1_ := M.upS HB hb; clear HB; have HO248 := n0_; have HB := n1_; clear n0_ n1_; (try clear hb); (try clear ho0); obtain ⟨Ao7, co7, eo7⟩ := Kd.R_slice HO248.out; subst eo7) | ((with_reducible refine gate_callee (f := 17) rfl ?_); refine M.goes (some 18) Try.func17 #[.string a0, .slice Ao7 t245.length co7] rfl ?_; (with_reducible refine (delta_Join.calls a0 _ _ t245 t249 t250 _ ?side1 ?side2 A5.out).mono ?_); (case side1 => repeat (first | exact (Kd.R_reads' HO248.out).2.2 | (with_reducible refine Kd.C_alloc ?_ _) | (with_reducible refine Kd.C_drewN ?_ _) | (with_reducible refine Kd.C_drew ?_))); (case side2 => exact (Kd.R_reads' HO248.out).2.1); rintro e w8 ⟨rfl, hb⟩; refine ⟨_, rfl, ?_⟩; have n0_ := M.roB HO248 hb; have n1_ := M.upS HB hb; clear HO248 HB; have HO248 := n0_; have HB := n1_; clear n0_ n1_; (try clear hb)))
    go_ret2
    exact M.fin (M.up HB)
  · rw [if_neg c4] at H
    have c4b0 : (t246 == 0) = false := beq_eq_false_iff_ne.mpr c4
    have c4b1 : (t246 != 0) = true := bne_iff_ne.mpr c4
    simp only [Option.some.injEq, Prod.mk.injEq] at H
    obtain ⟨rfl, rfl⟩ := H
    go_enter Try.func21, Try.ntmps21
    go_wp2_with (first | ((with_reducible refine gate_callee (f := 19) rfl ?_); refine M.goes (some 10) Try.func19 #[.string a1] rfl ?_; (with_reducible refine (delta_Take.calls a1 t245 t246 _ A3.out).mono ?_); rintro e w9 ⟨v247, rfl, ho0, hb⟩; refine ⟨_, rfl, ?_⟩; have n0_ := Aside0.mk (Kd.R_lower ho0 (below_size (M.up HB))); have n1_ := M.upS HB hb; clear HB; have HO248 := n0_; have HB := n1_; clear n0_ n1_; (try clear hb); (try clear ho0)))
    go_ret2
    exact M.fin (M.up HB)

/-! ### pleachref11_Join_p: function 18 -/
def pleachref11_Join_p.l0 : Nat → ByteArray → List (S34) → ByteArray → Int → Option (ByteArray × Int)
  | 0, _, _, _, _ => none
  | k + 1, x0, x1, x6, x7 => if x7 < (x1.length : Int) then (if 0 ≤ x7 then ((pleachref11_Is.f ((rd_T34 x1 x7).f0) ((rd_T34 x1 x7).f1) ((rd_T34 x1 x7).f2) ((rd_T34 x1 x7).f3)).bind fun t253 => (if t253 = true then (if (wrap64 ((x6.size : Int) + ((rd_T34 x1 x7).f2))) > 65536 then (some ((⟨#[]⟩ : ByteArray), 5)) else (if ((rd_T34 x1 x7).f0 = true) then (if (wrap64 (((rd_T34 x1 x7).f1) + ((rd_T34 x1 x7).f2))) > (x0.size : Int) then (some ((⟨#[]⟩ : ByteArray), 8)) else (if 0 ≤ ((rd_T34 x1 x7).f1) then (if ((rd_T34 x1 x7).f1) ≤ (wrap64 (((rd_T34 x1 x7).f1) + ((rd_T34 x1 x7).f2))) then (if (wrap64 (((rd_T34 x1 x7).f1) + ((rd_T34 x1 x7).f2))) ≤ (x0.size : Int) then (if x6.size + (x0.extract (((rd_T34 x1 x7).f1) : Int).toNat ((wrap64 (((rd_T34 x1 x7).f1) + ((rd_T34 x1 x7).f2))) : Int).toNat).size ≤ 9223372036854775807 then (pleachref11_Join_p.l0 k x0 x1 (x6 ++ (x0.extract (((rd_T34 x1 x7).f1) : Int).toNat ((wrap64 (((rd_T34 x1 x7).f1) + ((rd_T34 x1 x7).f2))) : Int).toNat)) (wrap64 (x7 + 1))) else (none)) else (none)) else (none)) else (none))) else (if x6.size + ((rd_T34 x1 x7).f3).size ≤ 9223372036854775807 then (pleachref11_Join_p.l0 k x0 x1 (x6 ++ ((rd_T34 x1 x7).f3)) (wrap64 (x7 + 1))) else (none)))) else (some ((⟨#[]⟩ : ByteArray), 2)))) else (none)) else (some (x6, 0))
def pleachref11_Join_p.f (k : Nat) (a0 : ByteArray) (l1 : List (S34)) : Option (ByteArray × Int) := pleachref11_Join_p.l0 k a0 l1 (⟨#[]⟩ : ByteArray) 0
theorem pleachref11_Join_p.mono_l : ∀ k, (∀ y0 y1 y2 y3, LeO (pleachref11_Join_p.l0 k y0 y1 y2 y3) (pleachref11_Join_p.l0 (k + 1) y0 y1 y2 y3))
  | 0 => fun _ _ _ _ r h => by simp [pleachref11_Join_p.l0] at h
  | k + 1 => by
    have ih0 := pleachref11_Join_p.mono_l k
    · intro y0 y1 y2 y3
      unfold pleachref11_Join_p.l0
      repeat' first
      | (with_reducible exact ih0 _ _ _ _)
      | (with_reducible exact LeO.refl _)
      | (with_reducible exact LeO.none _)
      | (with_reducible refine LeO.ite ?_ ?_)
      | (with_reducible refine LeO.bind ?_ (fun _ => ?_))
      | exact ih0 _ _ _ _
      | exact LeO.none _
      | refine LeO.ite ?_ ?_
      | refine LeO.bind ?_ (fun _ => ?_)
theorem pleachref11_Join_p.mono : ∀ a0 a1 k, LeO (pleachref11_Join_p.f k a0 a1) (pleachref11_Join_p.f (k + 1) a0 a1) := by
  intro a0 a1 k
  have ih0 := pleachref11_Join_p.mono_l k
  unfold pleachref11_Join_p.f
  repeat' first
      | (with_reducible exact ih0 _ _ _ _)
      | (with_reducible exact LeO.refl _)
      | (with_reducible exact LeO.none _)
      | (with_reducible refine LeO.ite ?_ ?_)
      | (with_reducible refine LeO.bind ?_ (fun _ => ?_))
      | exact ih0 _ _ _ _
      | exact LeO.none _
      | refine LeO.ite ?_ ?_
      | refine LeO.bind ?_ (fun _ => ?_)
set_option maxHeartbeats 8000000 in
set_option maxRecDepth 100000 in
theorem pleachref11_Join_p.calls (k : Nat) (a0 : ByteArray) (A1 : Option Addr) (c1 : Nat) (l1 : List (S34)) (r1 : ByteArray) (r2 : Int) (w : World) (hr1 : Kd.C k34 w A1 l1.length l1) (hc1 : l1.length ≤ c1) (h : pleachref11_Join_p.f k a0 l1 = some (r1, r2)) :
    Calls Try.prog 18 #[.string a0, .slice A1 l1.length c1] w fun e w' => e = .returned (.tuple #[.string r1, .int .i64 r2]) ∧ Below w.heap.size w w' := by
  have hu34 := Try.underlying34
  have HR1 := Aside0.mk hr1
  have HC1 := Aside0.mk hc1
  clear hr1 hc1
  have HB := Aside0.mk (Below.refl w.heap.size w)
  have H : (pleachref11_Join_p.l0 k a0 l1 (⟨#[]⟩ : ByteArray) 0) = some (r1, r2) := h
  clear h
  have H' := Aside0.mk H
  clear H
  go_enter Try.func18, Try.ntmps18
  go_wp2
  go_loopg [6, 7] k (fun kq v6 v7 w' => ∃ (x6_1 : ByteArray) (x7_1 : Int), v6 = .string x6_1 ∧ v7 = .int .i64 x7_1 ∧ Aside0 (pleachref11_Join_p.l0 kq a0 l1 x6_1 x7_1 = some (r1, r2)) ∧ Aside0 (kq ≤ k) ∧ Aside0 (Below w.heap.size w w'))
  case atStart => exact ⟨((⟨#[]⟩ : ByteArray)), (0), (by first | rfl | (simp; done) | (simp [*]; done) | (simp [M.isEmpty_bne]; done)), (by first | rfl | (simp; done) | (simp [*]; done) | (simp [M.isEmpty_bne]; done)), H', ⟨Nat.le_refl _⟩, ⟨M.up HB⟩⟩
  case round =>
    clear H'
    try clear c1
    try clear p2
    obtain ⟨x6_1, x7_1, rfl, rfl, HA, HK1, HB⟩ := hrel
    cases gk with
    | zero => exact absurd HA.out (by simp [pleachref11_Join_p.l0])
    | succ k1 =>
      have H := HA.out
      clear HA
      simp only [pleachref11_Join_p.l0] at H
      by_cases c3 : x7_1 < (l1.length : Int)
      · rw [if_pos c3] at H
        have c3b0 : decide (x7_1 < (l1.length : Int)) = true := decide_eq_true c3
        clear c3
        by_cases c4 : 0 ≤ x7_1
        · rw [if_pos c4] at H
          have c4b0 : decide (0 ≤ x7_1) = true := decide_eq_true c4
          clear c4
          replace H := Option.bind_eq_some_iff.mp H
          obtain ⟨t253, A50, H⟩ := H
          replace H : (if t253 = true then (if (wrap64 ((x6_1.size : Int) + ((rd_T34 l1 x7_1).f2))) > 65536 then (some ((⟨#[]⟩ : ByteArray), 5)) else (if ((rd_T34 l1 x7_1).f0 = true) then (if (wrap64 (((rd_T34 l1 x7_1).f1) + ((rd_T34 l1 x7_1).f2))) > (a0.size : Int) then (some ((⟨#[]⟩ : ByteArray), 8)) else (if 0 ≤ ((rd_T34 l1 x7_1).f1) then (if ((rd_T34 l1 x7_1).f1) ≤ (wrap64 (((rd_T34 l1 x7_1).f1) + ((rd_T34 l1 x7_1).f2))) then (if (wrap64 (((rd_T34 l1 x7_1).f1) + ((rd_T34 l1 x7_1).f2))) ≤ (a0.size : Int) then (if x6_1.size + (a0.extract (((rd_T34 l1 x7_1).f1) : Int).toNat ((wrap64 (((rd_T34 l1 x7_1).f1) + ((rd_T34 l1 x7_1).f2))) : Int).toNat).size ≤ 9223372036854775807 then (pleachref11_Join_p.l0 k1 a0 l1 (x6_1 ++ (a0.extract (((rd_T34 l1 x7_1).f1) : Int).toNat ((wrap64 (((rd_T34 l1 x7_1).f1) + ((rd_T34 l1 x7_1).f2))) : Int).toNat)) (wrap64 (x7_1 + 1))) else (none)) else (none)) else (none)) else (none))) else (if x6_1.size + ((rd_T34 l1 x7_1).f3).size ≤ 9223372036854775807 then (pleachref11_Join_p.l0 k1 a0 l1 (x6_1 ++ ((rd_T34 l1 x7_1).f3)) (wrap64 (x7_1 + 1))) else (none)))) else (some ((⟨#[]⟩ : ByteArray), 2))) = some (r1, r2) := H
          have A5 := Aside0.mk A50
          clear A50
          by_cases c6 : t253 = true
          · subst c6
            have H1 : (if (wrap64 ((x6_1.size : Int) + ((rd_T34 l1 x7_1).f2))) > 65536 then (some ((⟨#[]⟩ : ByteArray), 5)) else (if ((rd_T34 l1 x7_1).f0 = true) then (if (wrap64 (((rd_T34 l1 x7_1).f1) + ((rd_T34 l1 x7_1).f2))) > (a0.size : Int) then (some ((⟨#[]⟩ : ByteArray), 8)) else (if 0 ≤ ((rd_T34 l1 x7_1).f1) then (if ((rd_T34 l1 x7_1).f1) ≤ (wrap64 (((rd_T34 l1 x7_1).f1) + ((rd_T34 l1 x7_1).f2))) then (if (wrap64 (((rd_T34 l1 x7_1).f1) + ((rd_T34 l1 x7_1).f2))) ≤ (a0.size : Int) then (if x6_1.size + (a0.extract (((rd_T34 l1 x7_1).f1) : Int).toNat ((wrap64 (((rd_T34 l1 x7_1).f1) + ((rd_T34 l1 x7_1).f2))) : Int).toNat).size ≤ 9223372036854775807 then (pleachref11_Join_p.l0 k1 a0 l1 (x6_1 ++ (a0.extract (((rd_T34 l1 x7_1).f1) : Int).toNat ((wrap64 (((rd_T34 l1 x7_1).f1) + ((rd_T34 l1 x7_1).f2))) : Int).toNat)) (wrap64 (x7_1 + 1))) else (none)) else (none)) else (none)) else (none))) else (if x6_1.size + ((rd_T34 l1 x7_1).f3).size ≤ 9223372036854775807 then (pleachref11_Join_p.l0 k1 a0 l1 (x6_1 ++ ((rd_T34 l1 x7_1).f3)) (wrap64 (x7_1 + 1))) else (none)))) = some (r1, r2) := by rw [if_pos rfl] at H; exact H
            clear H
            have H := H1
            clear H1
            by_cases c7 : (wrap64 ((x6_1.size : Int) + ((rd_T34 l1 x7_1).f2))) > 65536
            · rw [if_pos c7] at H
              have c7b0 : decide (65536 < (wrap64 ((x6_1.size : Int) + ((rd_T34 l1 x7_1).f2)))) = true := decide_eq_true c7
              clear c7
              simp only [Option.some.injEq, Prod.mk.injEq] at H
              obtain ⟨rfl, rfl⟩ := H
              have p251 : 0 ≤ (x7_1 : Int) := of_decide_eq_true (by first | (with_reducible assumption) | assumption)
              have q251 : x7_1 < (l1.length : Int) := of_decide_eq_true (by first | (with_reducible assumption) | assumption)
              obtain ⟨ad251, e251, hx251_0, hx251_1, hx251_2, hx251_3⟩ := at_T34 HR1.out x7_1 p251 q251
              cases e251
              replace hx251_0 := (HB.out.cell (World.block_lt_of_cell? w _ hx251_0)).trans hx251_0
              replace hx251_1 := (HB.out.cell (World.block_lt_of_cell? w _ hx251_1)).trans hx251_1
              replace hx251_2 := (HB.out.cell (World.block_lt_of_cell? w _ hx251_2)).trans hx251_2
              replace hx251_3 := (HB.out.cell (World.block_lt_of_cell? w _ hx251_3)).trans hx251_3
              replace p251 := eq_true p251
              replace q251 := eq_true q251
              go_wp2_with (first | ((with_reducible refine gate_dst (N := 8) rfl ?_); refine box_event ?hg (N := 8) ?hd (cs := #[.bool false, .int .i64 0, .int .i64 0, .string (⟨#[]⟩ : ByteArray)]) (t := 34) ?hr ?_; (case hd => rfl); (case hg => rfl); (case hr => first | (go_simp; done) | (go_simp; rfl)); intro zbF hg w8 hbox hb; have n0_ := M.upS HB hb; have n1_ := Aside0.mk (hbox); have n2_ := M.upG HB hg; have n3_ := M.upG HB hg; clear HB; have HB := n0_; have zbG := n1_; have zbH := n2_; have zbI := n3_; clear n0_ n1_ n2_ n3_; clear hb hbox hg; have zbJ : w8.cell? ⟨zbF, 0, none⟩ = some (.bool false) := (blk_cell zbG.out 0).trans rfl; have zbK : w8.cell? ⟨zbF, 1, none⟩ = some (.int .i64 0) := (blk_cell zbG.out 1).trans rfl; have zbL : w8.cell? ⟨zbF, 2, none⟩ = some (.int .i64 0) := (blk_cell zbG.out 2).trans rfl; have zbM : w8.cell? ⟨zbF, 3, none⟩ = some (.string (⟨#[]⟩ : ByteArray)) := (blk_cell zbG.out 3).trans rfl; have zbN := blk_frozen zbG.out 0; have zbO := blk_frozen zbG.out 1; have zbP := blk_frozen zbG.out 2; have zbQ := blk_frozen zbG.out 3) | ((with_reducible refine gate_callee (f := 15) rfl ?_); refine M.goes (some 20) Try.func15 #[.agg #[.bool ((rd_T34 l1 x7_1).f0), .int .i64 ((rd_T34 l1 x7_1).f1), .int .i64 ((rd_T34 l1 x7_1).f2), .string ((rd_T34 l1 x7_1).f3)]] rfl ?_; (with_reducible refine (pleachref11_Is.calls ((rd_T34 l1 x7_1).f0) ((rd_T34 l1 x7_1).f1) ((rd_T34 l1 x7_1).f2) ((rd_T34 l1 x7_1).f3) true _ A5.out).mono ?_); rintro e w10 ⟨rfl, hb⟩; refine ⟨_, rfl, ?_⟩; have n0_ := Aside0.mk (blk_below (g := zbF) (o := .cells #[.bool ((rd_T34 l1 x7_1).f0), .int .i64 ((rd_T34 l1 x7_1).f1), .int .i64 ((rd_T34 l1 x7_1).f2), .string ((rd_T34 l1 x7_1).f3)] 34 (0, 0)) (by (with_reducible repeat (first | refine blk_drewN ?_ _ | refine blk_drew ?_ | refine blk_alloc ?_ _)); refine blk_put (cs := #[.bool ((rd_T34 l1 x7_1).f0), .int .i64 ((rd_T34 l1 x7_1).f1), .int .i64 ((rd_T34 l1 x7_1).f2), .string (⟨#[]⟩ : ByteArray)]) ?_ 3 _ rfl; (with_reducible repeat (first | refine blk_drewN ?_ _ | refine blk_drew ?_ | refine blk_alloc ?_ _)); refine blk_put (cs := #[.bool ((rd_T34 l1 x7_1).f0), .int .i64 ((rd_T34 l1 x7_1).f1), .int .i64 0, .string (⟨#[]⟩ : ByteArray)]) ?_ 2 _ rfl; (with_reducible repeat (first | refine blk_drewN ?_ _ | refine blk_drew ?_ | refine blk_alloc ?_ _)); refine blk_put (cs := #[.bool ((rd_T34 l1 x7_1).f0), .int .i64 0, .int .i64 0, .string (⟨#[]⟩ : ByteArray)]) ?_ 1 _ rfl; (with_reducible repeat (first | refine blk_drewN ?_ _ | refine blk_drew ?_ | refine blk_alloc ?_ _)); refine blk_put (cs := #[.bool false, .int .i64 0, .int .i64 0, .string (⟨#[]⟩ : ByteArray)]) ?_ 0 _ rfl; (with_reducible repeat (first | refine blk_drewN ?_ _ | refine blk_drew ?_ | refine blk_alloc ?_ _)); exact zbG.out) hb); have n1_ := M.upS HB hb; clear zbG HB; have zbG := n0_; have HB := n1_; clear n0_ n1_; (try clear hb); have zbR : w10.cell? ⟨zbF, 0, none⟩ = some (.bool ((rd_T34 l1 x7_1).f0)) := (blk_cell zbG.out 0).trans rfl; have zbS : w10.cell? ⟨zbF, 1, none⟩ = some (.int .i64 ((rd_T34 l1 x7_1).f1)) := (blk_cell zbG.out 1).trans rfl; have zbT : w10.cell? ⟨zbF, 2, none⟩ = some (.int .i64 ((rd_T34 l1 x7_1).f2)) := (blk_cell zbG.out 2).trans rfl; have zbU : w10.cell? ⟨zbF, 3, none⟩ = some (.string ((rd_T34 l1 x7_1).f3)) := (blk_cell zbG.out 3).trans rfl; have zbV := blk_frozen zbG.out 0; have zbW := blk_frozen zbG.out 1; have zbX := blk_frozen zbG.out 2; have zbY := blk_frozen zbG.out 3))
              go_ret2
              exact M.fin (M.up HB)
            · rw [if_neg c7] at H
              have c7b0 : decide (65536 < (wrap64 ((x6_1.size : Int) + ((rd_T34 l1 x7_1).f2)))) = false := decide_eq_false c7
              clear c7
              obtain ⟨bq12, hbq12⟩ : ∃ b_ : Bool, b_ = ((rd_T34 l1 x7_1).f0) := ⟨_, rfl⟩
              replace H : (if (bq12 = true) then (if (wrap64 (((rd_T34 l1 x7_1).f1) + ((rd_T34 l1 x7_1).f2))) > (a0.size : Int) then (some ((⟨#[]⟩ : ByteArray), 8)) else (if 0 ≤ ((rd_T34 l1 x7_1).f1) then (if ((rd_T34 l1 x7_1).f1) ≤ (wrap64 (((rd_T34 l1 x7_1).f1) + ((rd_T34 l1 x7_1).f2))) then (if (wrap64 (((rd_T34 l1 x7_1).f1) + ((rd_T34 l1 x7_1).f2))) ≤ (a0.size : Int) then (if x6_1.size + (a0.extract (((rd_T34 l1 x7_1).f1) : Int).toNat ((wrap64 (((rd_T34 l1 x7_1).f1) + ((rd_T34 l1 x7_1).f2))) : Int).toNat).size ≤ 9223372036854775807 then (pleachref11_Join_p.l0 k1 a0 l1 (x6_1 ++ (a0.extract (((rd_T34 l1 x7_1).f1) : Int).toNat ((wrap64 (((rd_T34 l1 x7_1).f1) + ((rd_T34 l1 x7_1).f2))) : Int).toNat)) (wrap64 (x7_1 + 1))) else (none)) else (none)) else (none)) else (none))) else (if x6_1.size + ((rd_T34 l1 x7_1).f3).size ≤ 9223372036854775807 then (pleachref11_Join_p.l0 k1 a0 l1 (x6_1 ++ ((rd_T34 l1 x7_1).f3)) (wrap64 (x7_1 + 1))) else (none))) = some (r1, r2) := by rw [← hbq12] at H; exact H
              have Nbq12 := Aside0.mk hbq12
              clear hbq12
              by_cases c13 : (bq12 = true)
              · subst c13
                have H1 : (if (wrap64 (((rd_T34 l1 x7_1).f1) + ((rd_T34 l1 x7_1).f2))) > (a0.size : Int) then (some ((⟨#[]⟩ : ByteArray), 8)) else (if 0 ≤ ((rd_T34 l1 x7_1).f1) then (if ((rd_T34 l1 x7_1).f1) ≤ (wrap64 (((rd_T34 l1 x7_1).f1) + ((rd_T34 l1 x7_1).f2))) then (if (wrap64 (((rd_T34 l1 x7_1).f1) + ((rd_T34 l1 x7_1).f2))) ≤ (a0.size : Int) then (if x6_1.size + (a0.extract (((rd_T34 l1 x7_1).f1) : Int).toNat ((wrap64 (((rd_T34 l1 x7_1).f1) + ((rd_T34 l1 x7_1).f2))) : Int).toNat).size ≤ 9223372036854775807 then (pleachref11_Join_p.l0 k1 a0 l1 (x6_1 ++ (a0.extract (((rd_T34 l1 x7_1).f1) : Int).toNat ((wrap64 (((rd_T34 l1 x7_1).f1) + ((rd_T34 l1 x7_1).f2))) : Int).toNat)) (wrap64 (x7_1 + 1))) else (none)) else (none)) else (none)) else (none))) = some (r1, r2) := by rw [if_pos rfl] at H; exact H
                clear H
                have H := H1
                clear H1
                by_cases c14 : (wrap64 (((rd_T34 l1 x7_1).f1) + ((rd_T34 l1 x7_1).f2))) > (a0.size : Int)
                · rw [if_pos c14] at H
                  have c14b0 : decide ((a0.size : Int) < (wrap64 (((rd_T34 l1 x7_1).f1) + ((rd_T34 l1 x7_1).f2)))) = true := decide_eq_true c14
                  clear c14
                  simp only [Option.some.injEq, Prod.mk.injEq] at H
                  obtain ⟨rfl, rfl⟩ := H
                  have p251 : 0 ≤ (x7_1 : Int) := of_decide_eq_true (by first | (with_reducible assumption) | assumption)
                  have q251 : x7_1 < (l1.length : Int) := of_decide_eq_true (by first | (with_reducible assumption) | assumption)
                  obtain ⟨ad251, e251, hx251_0, hx251_1, hx251_2, hx251_3⟩ := at_T34 HR1.out x7_1 p251 q251
                  (try rw [← Nbq12.out] at hx251_0)
                  cases e251
                  replace hx251_0 := (HB.out.cell (World.block_lt_of_cell? w _ hx251_0)).trans hx251_0
                  replace hx251_1 := (HB.out.cell (World.block_lt_of_cell? w _ hx251_1)).trans hx251_1
                  replace hx251_2 := (HB.out.cell (World.block_lt_of_cell? w _ hx251_2)).trans hx251_2
                  replace hx251_3 := (HB.out.cell (World.block_lt_of_cell? w _ hx251_3)).trans hx251_3
                  replace p251 := eq_true p251
                  replace q251 := eq_true q251
                  go_wp2_with (first | ((with_reducible refine gate_dst (N := 8) rfl ?_); refine box_event ?hg (N := 8) ?hd (cs := #[.bool false, .int .i64 0, .int .i64 0, .string (⟨#[]⟩ : ByteArray)]) (t := 34) ?hr ?_; (case hd => rfl); (case hg => rfl); (case hr => first | (go_simp; done) | (go_simp; rfl)); intro zbF hg w15 hbox hb; have n0_ := M.upS HB hb; have n1_ := Aside0.mk (hbox); have n2_ := M.upG HB hg; have n3_ := M.upG HB hg; clear HB; have HB := n0_; have zbG := n1_; have zbH := n2_; have zbI := n3_; clear n0_ n1_ n2_ n3_; clear hb hbox hg; have zbZ : w15.cell? ⟨zbF, 0, none⟩ = some (.bool false) := (blk_cell zbG.out 0).trans rfl; have zb0 : w15.cell? ⟨zbF, 1, none⟩ = some (.int .i64 0) := (blk_cell zbG.out 1).trans rfl; have zb1 : w15.cell? ⟨zbF, 2, none⟩ = some (.int .i64 0) := (blk_cell zbG.out 2).trans rfl; have zb2 : w15.cell? ⟨zbF, 3, none⟩ = some (.string (⟨#[]⟩ : ByteArray)) := (blk_cell zbG.out 3).trans rfl; have zb3 := blk_frozen zbG.out 0; have zb4 := blk_frozen zbG.out 1; have zb5 := blk_frozen zbG.out 2; have zb6 := blk_frozen zbG.out 3) | ((with_reducible refine gate_callee (f := 15) rfl ?_); refine M.goes (some 20) Try.func15 #[.agg #[.bool true, .int .i64 ((rd_T34 l1 x7_1).f1), .int .i64 ((rd_T34 l1 x7_1).f2), .string ((rd_T34 l1 x7_1).f3)]] rfl ?_; (with_reducible refine (pleachref11_Is.calls true ((rd_T34 l1 x7_1).f1) ((rd_T34 l1 x7_1).f2) ((rd_T34 l1 x7_1).f3) true _ (by first | exact A5.out | (have q_ := A5.out; rw [← Nbq12.out] at q_; exact q_))).mono ?_); rintro e w17 ⟨rfl, hb⟩; refine ⟨_, rfl, ?_⟩; have n0_ := Aside0.mk (blk_below (g := zbF) (o := .cells #[.bool true, .int .i64 ((rd_T34 l1 x7_1).f1), .int .i64 ((rd_T34 l1 x7_1).f2), .string ((rd_T34 l1 x7_1).f3)] 34 (0, 0)) (by (with_reducible repeat (first | refine blk_drewN ?_ _ | refine blk_drew ?_ | refine blk_alloc ?_ _)); refine blk_put (cs := #[.bool true, .int .i64 ((rd_T34 l1 x7_1).f1), .int .i64 ((rd_T34 l1 x7_1).f2), .string (⟨#[]⟩ : ByteArray)]) ?_ 3 _ rfl; (with_reducible repeat (first | refine blk_drewN ?_ _ | refine blk_drew ?_ | refine blk_alloc ?_ _)); refine blk_put (cs := #[.bool true, .int .i64 ((rd_T34 l1 x7_1).f1), .int .i64 0, .string (⟨#[]⟩ : ByteArray)]) ?_ 2 _ rfl; (with_reducible repeat (first | refine blk_drewN ?_ _ | refine blk_drew ?_ | refine blk_alloc ?_ _)); refine blk_put (cs := #[.bool true, .int .i64 0, .int .i64 0, .string (⟨#[]⟩ : ByteArray)]) ?_ 1 _ rfl; (with_reducible repeat (first | refine blk_drewN ?_ _ | refine blk_drew ?_ | refine blk_alloc ?_ _)); refine blk_put (cs := #[.bool false, .int .i64 0, .int .i64 0, .string (⟨#[]⟩ : ByteArray)]) ?_ 0 _ rfl; (with_reducible repeat (first | refine blk_drewN ?_ _ | refine blk_drew ?_ | refine blk_alloc ?_ _)); exact zbG.out) hb); have n1_ := M.upS HB hb; clear zbG HB; have zbG := n0_; have HB := n1_; clear n0_ n1_; (try clear hb); have zav : w17.cell? ⟨zbF, 0, none⟩ = some (.bool true) := (blk_cell zbG.out 0).trans rfl; have zaw : w17.cell? ⟨zbF, 1, none⟩ = some (.int .i64 ((rd_T34 l1 x7_1).f1)) := (blk_cell zbG.out 1).trans rfl; have zax : w17.cell? ⟨zbF, 2, none⟩ = some (.int .i64 ((rd_T34 l1 x7_1).f2)) := (blk_cell zbG.out 2).trans rfl; have zay : w17.cell? ⟨zbF, 3, none⟩ = some (.string ((rd_T34 l1 x7_1).f3)) := (blk_cell zbG.out 3).trans rfl; have zaz := blk_frozen zbG.out 0; have zaA := blk_frozen zbG.out 1; have zaB := blk_frozen zbG.out 2; have zaC := blk_frozen zbG.out 3))
                  go_ret2
                  exact M.fin (M.up HB)
                · rw [if_neg c14] at H
                  have c14b0 : decide ((a0.size : Int) < (wrap64 (((rd_T34 l1 x7_1).f1) + ((rd_T34 l1 x7_1).f2)))) = false := decide_eq_false c14
                  clear c14
                  by_cases c19 : 0 ≤ ((rd_T34 l1 x7_1).f1)
                  · rw [if_pos c19] at H
                    have c19b0 := eq_true c19
                    have c19b1 : decide (0 ≤ ((rd_T34 l1 x7_1).f1)) = true := decide_eq_true c19
                    clear c19
                    by_cases c20 : ((rd_T34 l1 x7_1).f1) ≤ (wrap64 (((rd_T34 l1 x7_1).f1) + ((rd_T34 l1 x7_1).f2)))
                    · rw [if_pos c20] at H
                      have c20b0 := eq_true c20
                      have c20b1 : decide (((rd_T34 l1 x7_1).f1) ≤ (wrap64 (((rd_T34 l1 x7_1).f1) + ((rd_T34 l1 x7_1).f2)))) = true := decide_eq_true c20
                      by_cases c21 : (wrap64 (((rd_T34 l1 x7_1).f1) + ((rd_T34 l1 x7_1).f2))) ≤ (a0.size : Int)
                      · rw [if_pos c21] at H
                        have c21b0 := eq_true c21
                        have c21b1 : decide ((wrap64 (((rd_T34 l1 x7_1).f1) + ((rd_T34 l1 x7_1).f2))) ≤ (a0.size : Int)) = true := decide_eq_true c21
                        by_cases c22 : x6_1.size + (a0.extract (((rd_T34 l1 x7_1).f1) : Int).toNat ((wrap64 (((rd_T34 l1 x7_1).f1) + ((rd_T34 l1 x7_1).f2))) : Int).toNat).size ≤ 9223372036854775807
                        · rw [if_pos c22] at H
                          have c22b0 := eq_true c22
                          have c22b1 : decide (x6_1.size + (a0.extract (((rd_T34 l1 x7_1).f1) : Int).toNat ((wrap64 (((rd_T34 l1 x7_1).f1) + ((rd_T34 l1 x7_1).f2))) : Int).toNat).size ≤ 9223372036854775807) = true := decide_eq_true c22
                          try have c22b2 : (9223372036854775807 < x6_1.size + (a0.extract (((rd_T34 l1 x7_1).f1) : Int).toNat ((wrap64 (((rd_T34 l1 x7_1).f1) + ((rd_T34 l1 x7_1).f2))) : Int).toNat).size) = False := eq_false (Nat.not_lt.2 c22)
                          have H' := Aside0.mk H
                          clear H
                          have p251 : 0 ≤ (x7_1 : Int) := of_decide_eq_true (by first | (with_reducible assumption) | assumption)
                          have q251 : x7_1 < (l1.length : Int) := of_decide_eq_true (by first | (with_reducible assumption) | assumption)
                          obtain ⟨ad251, e251, hx251_0, hx251_1, hx251_2, hx251_3⟩ := at_T34 HR1.out x7_1 p251 q251
                          (try rw [← Nbq12.out] at hx251_0)
                          cases e251
                          replace hx251_0 := (HB.out.cell (World.block_lt_of_cell? w _ hx251_0)).trans hx251_0
                          replace hx251_1 := (HB.out.cell (World.block_lt_of_cell? w _ hx251_1)).trans hx251_1
                          replace hx251_2 := (HB.out.cell (World.block_lt_of_cell? w _ hx251_2)).trans hx251_2
                          replace hx251_3 := (HB.out.cell (World.block_lt_of_cell? w _ hx251_3)).trans hx251_3
                          replace p251 := eq_true p251
                          replace q251 := eq_true q251
                          go_wp2_with (first | ((with_reducible refine gate_dst (N := 8) rfl ?_); refine box_event ?hg (N := 8) ?hd (cs := #[.bool false, .int .i64 0, .int .i64 0, .string (⟨#[]⟩ : ByteArray)]) (t := 34) ?hr ?_; (case hd => rfl); (case hg => rfl); (case hr => first | (go_simp; done) | (go_simp; rfl)); intro zbF hg w23 hbox hb; have n0_ := M.upS HB hb; have n1_ := Aside0.mk (hbox); have n2_ := M.upG HB hg; have n3_ := M.upG HB hg; clear HB; have HB := n0_; have zbG := n1_; have zbH := n2_; have zbI := n3_; clear n0_ n1_ n2_ n3_; clear hb hbox hg; have zaL : w23.cell? ⟨zbF, 0, none⟩ = some (.bool false) := (blk_cell zbG.out 0).trans rfl; have zaM : w23.cell? ⟨zbF, 1, none⟩ = some (.int .i64 0) := (blk_cell zbG.out 1).trans rfl; have zaN : w23.cell? ⟨zbF, 2, none⟩ = some (.int .i64 0) := (blk_cell zbG.out 2).trans rfl; have zaO : w23.cell? ⟨zbF, 3, none⟩ = some (.string (⟨#[]⟩ : ByteArray)) := (blk_cell zbG.out 3).trans rfl; have zaP := blk_frozen zbG.out 0; have zaQ := blk_frozen zbG.out 1; have zaR := blk_frozen zbG.out 2; have zaS := blk_frozen zbG.out 3) | ((with_reducible refine gate_callee (f := 15) rfl ?_); refine M.goes (some 20) Try.func15 #[.agg #[.bool true, .int .i64 ((rd_T34 l1 x7_1).f1), .int .i64 ((rd_T34 l1 x7_1).f2), .string ((rd_T34 l1 x7_1).f3)]] rfl ?_; (with_reducible refine (pleachref11_Is.calls true ((rd_T34 l1 x7_1).f1) ((rd_T34 l1 x7_1).f2) ((rd_T34 l1 x7_1).f3) true _ (by first | exact A5.out | (have q_ := A5.out; rw [← Nbq12.out] at q_; exact q_))).mono ?_); rintro e w25 ⟨rfl, hb⟩; refine ⟨_, rfl, ?_⟩; have n0_ := Aside0.mk (blk_below (g := zbF) (o := .cells #[.bool true, .int .i64 ((rd_T34 l1 x7_1).f1), .int .i64 ((rd_T34 l1 x7_1).f2), .string ((rd_T34 l1 x7_1).f3)] 34 (0, 0)) (by (with_reducible repeat (first | refine blk_drewN ?_ _ | refine blk_drew ?_ | refine blk_alloc ?_ _)); refine blk_put (cs := #[.bool true, .int .i64 ((rd_T34 l1 x7_1).f1), .int .i64 ((rd_T34 l1 x7_1).f2), .string (⟨#[]⟩ : ByteArray)]) ?_ 3 _ rfl; (with_reducible repeat (first | refine blk_drewN ?_ _ | refine blk_drew ?_ | refine blk_alloc ?_ _)); refine blk_put (cs := #[.bool true, .int .i64 ((rd_T34 l1 x7_1).f1), .int .i64 0, .string (⟨#[]⟩ : ByteArray)]) ?_ 2 _ rfl; (with_reducible repeat (first | refine blk_drewN ?_ _ | refine blk_drew ?_ | refine blk_alloc ?_ _)); refine blk_put (cs := #[.bool true, .int .i64 0, .int .i64 0, .string (⟨#[]⟩ : ByteArray)]) ?_ 1 _ rfl; (with_reducible repeat (first | refine blk_drewN ?_ _ | refine blk_drew ?_ | refine blk_alloc ?_ _)); refine blk_put (cs := #[.bool false, .int .i64 0, .int .i64 0, .string (⟨#[]⟩ : ByteArray)]) ?_ 0 _ rfl; (with_reducible repeat (first | refine blk_drewN ?_ _ | refine blk_drew ?_ | refine blk_alloc ?_ _)); exact zbG.out) hb); have n1_ := M.upS HB hb; clear zbG HB; have zbG := n0_; have HB := n1_; clear n0_ n1_; (try clear hb); have zaT : w25.cell? ⟨zbF, 0, none⟩ = some (.bool true) := (blk_cell zbG.out 0).trans rfl; have zaU : w25.cell? ⟨zbF, 1, none⟩ = some (.int .i64 ((rd_T34 l1 x7_1).f1)) := (blk_cell zbG.out 1).trans rfl; have zaV : w25.cell? ⟨zbF, 2, none⟩ = some (.int .i64 ((rd_T34 l1 x7_1).f2)) := (blk_cell zbG.out 2).trans rfl; have zaW : w25.cell? ⟨zbF, 3, none⟩ = some (.string ((rd_T34 l1 x7_1).f3)) := (blk_cell zbG.out 3).trans rfl; have zaX := blk_frozen zbG.out 0; have zaY := blk_frozen zbG.out 1; have zaZ := blk_frozen zbG.out 2; have za0 := blk_frozen zbG.out 3))
                          go_roundg k1
                          case measure => have := HK1.out; omega
                          case rel => exact ⟨(x6_1 ++ (a0.extract (((rd_T34 l1 x7_1).f1) : Int).toNat ((wrap64 (((rd_T34 l1 x7_1).f1) + ((rd_T34 l1 x7_1).f2))) : Int).toNat)), (wrap64 (x7_1 + 1)), (by first | rfl | (simp; done) | (simp [*]; done) | (simp [M.isEmpty_bne]; done)), (by first | rfl | (simp; done) | (simp [*]; done) | (simp [M.isEmpty_bne]; done)), H', ⟨by have := HK1.out; omega⟩, ⟨M.up HB⟩⟩
                        · rw [if_neg c22] at H
                          exact absurd H (by simp)
                      · rw [if_neg c21] at H
                        exact absurd H (by simp)
                    · rw [if_neg c20] at H
                      exact absurd H (by simp)
                  · rw [if_neg c19] at H
                    exact absurd H (by simp)
              · replace c13 := Bool.eq_false_iff.mpr c13
                subst c13
                have H1 : (if x6_1.size + ((rd_T34 l1 x7_1).f3).size ≤ 9223372036854775807 then (pleachref11_Join_p.l0 k1 a0 l1 (x6_1 ++ ((rd_T34 l1 x7_1).f3)) (wrap64 (x7_1 + 1))) else (none)) = some (r1, r2) := by rw [if_neg (show ¬ (false = true) by decide)] at H; exact H
                clear H
                have H := H1
                clear H1
                by_cases c27 : x6_1.size + ((rd_T34 l1 x7_1).f3).size ≤ 9223372036854775807
                · rw [if_pos c27] at H
                  have c27b0 := eq_true c27
                  have c27b1 : decide (x6_1.size + ((rd_T34 l1 x7_1).f3).size ≤ 9223372036854775807) = true := decide_eq_true c27
                  try have c27b2 : (9223372036854775807 < x6_1.size + ((rd_T34 l1 x7_1).f3).size) = False := eq_false (Nat.not_lt.2 c27)
                  have H' := Aside0.mk H
                  clear H
                  have p251 : 0 ≤ (x7_1 : Int) := of_decide_eq_true (by first | (with_reducible assumption) | assumption)
                  have q251 : x7_1 < (l1.length : Int) := of_decide_eq_true (by first | (with_reducible assumption) | assumption)
                  obtain ⟨ad251, e251, hx251_0, hx251_1, hx251_2, hx251_3⟩ := at_T34 HR1.out x7_1 p251 q251
                  (try rw [← Nbq12.out] at hx251_0)
                  cases e251
                  replace hx251_0 := (HB.out.cell (World.block_lt_of_cell? w _ hx251_0)).trans hx251_0
                  replace hx251_1 := (HB.out.cell (World.block_lt_of_cell? w _ hx251_1)).trans hx251_1
                  replace hx251_2 := (HB.out.cell (World.block_lt_of_cell? w _ hx251_2)).trans hx251_2
                  replace hx251_3 := (HB.out.cell (World.block_lt_of_cell? w _ hx251_3)).trans hx251_3
                  replace p251 := eq_true p251
                  replace q251 := eq_true q251
                  go_wp2_with (first | ((with_reducible refine gate_dst (N := 8) rfl ?_); refine box_event ?hg (N := 8) ?hd (cs := #[.bool false, .int .i64 0, .int .i64 0, .string (⟨#[]⟩ : ByteArray)]) (t := 34) ?hr ?_; (case hd => rfl); (case hg => rfl); (case hr => first | (go_simp; done) | (go_simp; rfl)); intro zbF hg w28 hbox hb; have n0_ := M.upS HB hb; have n1_ := Aside0.mk (hbox); have n2_ := M.upG HB hg; have n3_ := M.upG HB hg; clear HB; have HB := n0_; have zbG := n1_; have zbH := n2_; have zbI := n3_; clear n0_ n1_ n2_ n3_; clear hb hbox hg; have zb7 : w28.cell? ⟨zbF, 0, none⟩ = some (.bool false) := (blk_cell zbG.out 0).trans rfl; have zb8 : w28.cell? ⟨zbF, 1, none⟩ = some (.int .i64 0) := (blk_cell zbG.out 1).trans rfl; have zb9 : w28.cell? ⟨zbF, 2, none⟩ = some (.int .i64 0) := (blk_cell zbG.out 2).trans rfl; have zca : w28.cell? ⟨zbF, 3, none⟩ = some (.string (⟨#[]⟩ : ByteArray)) := (blk_cell zbG.out 3).trans rfl; have zcb := blk_frozen zbG.out 0; have zcc := blk_frozen zbG.out 1; have zcd := blk_frozen zbG.out 2; have zce := blk_frozen zbG.out 3) | ((with_reducible refine gate_callee (f := 15) rfl ?_); refine M.goes (some 20) Try.func15 #[.agg #[.bool false, .int .i64 ((rd_T34 l1 x7_1).f1), .int .i64 ((rd_T34 l1 x7_1).f2), .string ((rd_T34 l1 x7_1).f3)]] rfl ?_; (with_reducible refine (pleachref11_Is.calls false ((rd_T34 l1 x7_1).f1) ((rd_T34 l1 x7_1).f2) ((rd_T34 l1 x7_1).f3) true _ (by first | exact A5.out | (have q_ := A5.out; rw [← Nbq12.out] at q_; exact q_))).mono ?_); rintro e w30 ⟨rfl, hb⟩; refine ⟨_, rfl, ?_⟩; have n0_ := Aside0.mk (blk_below (g := zbF) (o := .cells #[.bool false, .int .i64 ((rd_T34 l1 x7_1).f1), .int .i64 ((rd_T34 l1 x7_1).f2), .string ((rd_T34 l1 x7_1).f3)] 34 (0, 0)) (by (with_reducible repeat (first | refine blk_drewN ?_ _ | refine blk_drew ?_ | refine blk_alloc ?_ _)); refine blk_put (cs := #[.bool false, .int .i64 ((rd_T34 l1 x7_1).f1), .int .i64 ((rd_T34 l1 x7_1).f2), .string (⟨#[]⟩ : ByteArray)]) ?_ 3 _ rfl; (with_reducible repeat (first | refine blk_drewN ?_ _ | refine blk_drew ?_ | refine blk_alloc ?_ _)); refine blk_put (cs := #[.bool false, .int .i64 ((rd_T34 l1 x7_1).f1), .int .i64 0, .string (⟨#[]⟩ : ByteArray)]) ?_ 2 _ rfl; (with_reducible repeat (first | refine blk_drewN ?_ _ | refine blk_drew ?_ | refine blk_alloc ?_ _)); refine blk_put (cs := #[.bool false, .int .i64 0, .int .i64 0, .string (⟨#[]⟩ : ByteArray)]) ?_ 1 _ rfl; (with_reducible repeat (first | refine blk_drewN ?_ _ | refine blk_drew ?_ | refine blk_alloc ?_ _)); refine blk_put (cs := #[.bool false, .int .i64 0, .int .i64 0, .string (⟨#[]⟩ : ByteArray)]) ?_ 0 _ rfl; (with_reducible repeat (first | refine blk_drewN ?_ _ | refine blk_drew ?_ | refine blk_alloc ?_ _)); exact zbG.out) hb); have n1_ := M.upS HB hb; clear zbG HB; have zbG := n0_; have HB := n1_; clear n0_ n1_; (try clear hb); have zcf : w30.cell? ⟨zbF, 0, none⟩ = some (.bool false) := (blk_cell zbG.out 0).trans rfl; have zcg : w30.cell? ⟨zbF, 1, none⟩ = some (.int .i64 ((rd_T34 l1 x7_1).f1)) := (blk_cell zbG.out 1).trans rfl; have zch : w30.cell? ⟨zbF, 2, none⟩ = some (.int .i64 ((rd_T34 l1 x7_1).f2)) := (blk_cell zbG.out 2).trans rfl; have zci : w30.cell? ⟨zbF, 3, none⟩ = some (.string ((rd_T34 l1 x7_1).f3)) := (blk_cell zbG.out 3).trans rfl; have zcj := blk_frozen zbG.out 0; have zck := blk_frozen zbG.out 1; have zcl := blk_frozen zbG.out 2; have zcm := blk_frozen zbG.out 3))
                  go_roundg k1
                  case measure => have := HK1.out; omega
                  case rel => exact ⟨(x6_1 ++ ((rd_T34 l1 x7_1).f3)), (wrap64 (x7_1 + 1)), (by first | rfl | (simp; done) | (simp [*]; done) | (simp [M.isEmpty_bne]; done)), (by first | rfl | (simp; done) | (simp [*]; done) | (simp [M.isEmpty_bne]; done)), H', ⟨by have := HK1.out; omega⟩, ⟨M.up HB⟩⟩
                · rw [if_neg c27] at H
                  exact absurd H (by simp)
          · replace c6 := Bool.eq_false_iff.mpr c6
            subst c6
            have H1 : (some ((⟨#[]⟩ : ByteArray), 2)) = some (r1, r2) := by rw [if_neg (show ¬ (false = true) by decide)] at H; exact H
            clear H
            have H := H1
            clear H1
            simp only [Option.some.injEq, Prod.mk.injEq] at H
            obtain ⟨rfl, rfl⟩ := H
            have p251 : 0 ≤ (x7_1 : Int) := of_decide_eq_true (by first | (with_reducible assumption) | assumption)
            have q251 : x7_1 < (l1.length : Int) := of_decide_eq_true (by first | (with_reducible assumption) | assumption)
            obtain ⟨ad251, e251, hx251_0, hx251_1, hx251_2, hx251_3⟩ := at_T34 HR1.out x7_1 p251 q251
            cases e251
            replace hx251_0 := (HB.out.cell (World.block_lt_of_cell? w _ hx251_0)).trans hx251_0
            replace hx251_1 := (HB.out.cell (World.block_lt_of_cell? w _ hx251_1)).trans hx251_1
            replace hx251_2 := (HB.out.cell (World.block_lt_of_cell? w _ hx251_2)).trans hx251_2
            replace hx251_3 := (HB.out.cell (World.block_lt_of_cell? w _ hx251_3)).trans hx251_3
            replace p251 := eq_true p251
            replace q251 := eq_true q251
            go_wp2_with (first | ((with_reducible refine gate_dst (N := 8) rfl ?_); refine box_event ?hg (N := 8) ?hd (cs := #[.bool false, .int .i64 0, .int .i64 0, .string (⟨#[]⟩ : ByteArray)]) (t := 34) ?hr ?_; (case hd => rfl); (case hg => rfl); (case hr => first | (go_simp; done) | (go_simp; rfl)); intro zbF hg w32 hbox hb; have n0_ := M.upS HB hb; have n1_ := Aside0.mk (hbox); have n2_ := M.upG HB hg; have n3_ := M.upG HB hg; clear HB; have HB := n0_; have zbG := n1_; have zbH := n2_; have zbI := n3_; clear n0_ n1_ n2_ n3_; clear hb hbox hg; have za1 : w32.cell? ⟨zbF, 0, none⟩ = some (.bool false) := (blk_cell zbG.out 0).trans rfl; have za2 : w32.cell? ⟨zbF, 1, none⟩ = some (.int .i64 0) := (blk_cell zbG.out 1).trans rfl; have za3 : w32.cell? ⟨zbF, 2, none⟩ = some (.int .i64 0) := (blk_cell zbG.out 2).trans rfl; have za4 : w32.cell? ⟨zbF, 3, none⟩ = some (.string (⟨#[]⟩ : ByteArray)) := (blk_cell zbG.out 3).trans rfl; have za5 := blk_frozen zbG.out 0; have za6 := blk_frozen zbG.out 1; have za7 := blk_frozen zbG.out 2; have za8 := blk_frozen zbG.out 3) | ((with_reducible refine gate_callee (f := 15) rfl ?_); refine M.goes (some 20) Try.func15 #[.agg #[.bool ((rd_T34 l1 x7_1).f0), .int .i64 ((rd_T34 l1 x7_1).f1), .int .i64 ((rd_T34 l1 x7_1).f2), .string ((rd_T34 l1 x7_1).f3)]] rfl ?_; (with_reducible refine (pleachref11_Is.calls ((rd_T34 l1 x7_1).f0) ((rd_T34 l1 x7_1).f1) ((rd_T34 l1 x7_1).f2) ((rd_T34 l1 x7_1).f3) false _ A5.out).mono ?_); rintro e w34 ⟨rfl, hb⟩; refine ⟨_, rfl, ?_⟩; have n0_ := Aside0.mk (blk_below (g := zbF) (o := .cells #[.bool ((rd_T34 l1 x7_1).f0), .int .i64 ((rd_T34 l1 x7_1).f1), .int .i64 ((rd_T34 l1 x7_1).f2), .string ((rd_T34 l1 x7_1).f3)] 34 (0, 0)) (by (with_reducible repeat (first | refine blk_drewN ?_ _ | refine blk_drew ?_ | refine blk_alloc ?_ _)); refine blk_put (cs := #[.bool ((rd_T34 l1 x7_1).f0), .int .i64 ((rd_T34 l1 x7_1).f1), .int .i64 ((rd_T34 l1 x7_1).f2), .string (⟨#[]⟩ : ByteArray)]) ?_ 3 _ rfl; (with_reducible repeat (first | refine blk_drewN ?_ _ | refine blk_drew ?_ | refine blk_alloc ?_ _)); refine blk_put (cs := #[.bool ((rd_T34 l1 x7_1).f0), .int .i64 ((rd_T34 l1 x7_1).f1), .int .i64 0, .string (⟨#[]⟩ : ByteArray)]) ?_ 2 _ rfl; (with_reducible repeat (first | refine blk_drewN ?_ _ | refine blk_drew ?_ | refine blk_alloc ?_ _)); refine blk_put (cs := #[.bool ((rd_T34 l1 x7_1).f0), .int .i64 0, .int .i64 0, .string (⟨#[]⟩ : ByteArray)]) ?_ 1 _ rfl; (with_reducible repeat (first | refine blk_drewN ?_ _ | refine blk_drew ?_ | refine blk_alloc ?_ _)); refine blk_put (cs := #[.bool false, .int .i64 0, .int .i64 0, .string (⟨#[]⟩ : ByteArray)]) ?_ 0 _ rfl; (with_reducible repeat (first | refine blk_drewN ?_ _ | refine blk_drew ?_ | refine blk_alloc ?_ _)); exact zbG.out) hb); have n1_ := M.upS HB hb; clear zbG HB; have zbG := n0_; have HB := n1_; clear n0_ n1_; (try clear hb)))
            go_ret2
            exact M.fin (M.up HB)
        · rw [if_neg c4] at H
          exact absurd H (by simp)
      · rw [if_neg c3] at H
        have c3b0 : decide (x7_1 < (l1.length : Int)) = false := decide_eq_false c3
        clear c3
        simp only [Option.some.injEq, Prod.mk.injEq] at H
        obtain ⟨rfl, rfl⟩ := H
        go_wp2
        go_ret2
        exact M.fin (M.up HB)

-- this session's own plain form
def pleachref11_Join.pc (x : S34) : M.Pc := (x.f0, x.f1, x.f2, x.f3)
def pleachref11_Join.f (base : ByteArray) (l : List S34) : Option (ByteArray × Int) :=
  if base.size ≤ 1000000000 ∧ l.length ≤ 1000000000 then some (M.sb (M.djoin base [] (l.map pleachref11_Join.pc)).1, (M.djoin base [] (l.map pleachref11_Join.pc)).2) else none
theorem pleachref11_Join.cut (base : ByteArray) (a n : Int) (ha : 0 ≤ a) (hn : 0 ≤ n) : M.bs (base.extract a.toNat (a + n).toNat) = ((M.bs base).drop a.toNat).take n.toNat := by
  rw [M.bs_extract]; congr 1; omega
theorem pleachref11_Join.loop (base : ByteArray) (l : List S34) (hb : base.size ≤ 1000000000) (hc : l.length ≤ 1000000000) (d : Nat) : ∀ (i : Nat) (acc : ByteArray), i + d = l.length → acc.size ≤ 65536 →
    pleachref11_Join_p.l0 (d + 1) base l acc (i : Int) = some (M.sb (M.djoin base (M.bs acc) ((l.drop i).map pleachref11_Join.pc)).1, (M.djoin base (M.bs acc) ((l.drop i).map pleachref11_Join.pc)).2) := by
  induction d with
  | zero =>
    intro i acc hi _
    rw [pleachref11_Join_p.l0, if_neg (by omega), List.drop_of_length_le (by omega)]
    rw [List.map_nil, M.djoin, M.sb_bs]
  | succ d ih =>
    intro i acc hi hz
    have hlt : i < l.length := by omega
    have hrd : rd_T34 l (i : Int) = l[i] := by simp [rd_T34, List.getD, hlt]
    rw [pleachref11_Join_p.l0, if_pos (by omega), if_pos (by omega), hrd]
    rw [List.drop_eq_getElem_cons hlt, List.map_cons]
    have ih := ih (i + 1)
    rw [show ((i + 1 : Nat) : Int) = (i : Int) + 1 from by omega] at ih
    rw [M.wrap64_id (i := (i : Int) + 1) (by omega) (by omega)]
    generalize l[i] = x
    obtain ⟨c, a, n, o⟩ := x
    show (pleachref11_Is.f c a n o).bind _ = _
    rw [pleachref11_Is.f, Option.bind_some]
    by_cases hp : M.pok c a n o = true
    · have hk : M.pk (pleachref11_Join.pc ⟨c, a, n, o⟩) = true := hp
      have hl := M.pok_len hp
      rw [if_pos hp, M.djoin, if_pos hk, M.bs_length]
      show (if wrap64 ((acc.size : Int) + n) > 65536 then _ else _) = some (M.sb (if (acc.size : Int) + n > 65536 then ([], 5) else if c = true then (if a + n > (base.size : Int) then ([], 8) else M.djoin base (M.bs acc ++ ((M.bs base).drop a.toNat).take n.toNat) _) else M.djoin base (M.bs acc ++ M.bs o) _).1, (if (acc.size : Int) + n > 65536 then ([], 5) else if c = true then (if a + n > (base.size : Int) then ([], 8) else M.djoin base (M.bs acc ++ ((M.bs base).drop a.toNat).take n.toNat) _) else M.djoin base (M.bs acc ++ M.bs o) _).2)
      rw [M.wrap64_id (i := (acc.size : Int) + n) (by omega) (by omega)]
      by_cases h5 : (acc.size : Int) + n > 65536
      · rw [if_pos h5]; simp only [if_pos h5]; rfl
      · rw [if_neg h5]
        simp only [if_neg h5]
        cases c with
        | true =>
          have hc2 := M.pok_copy hp
          rw [if_pos rfl]
          simp only [if_true]
          show (if wrap64 (a + n) > (base.size : Int) then _ else if 0 ≤ a then (if a ≤ wrap64 (a + n) then (if wrap64 (a + n) ≤ (base.size : Int) then (if acc.size + (base.extract a.toNat (wrap64 (a + n)).toNat).size ≤ 9223372036854775807 then pleachref11_Join_p.l0 (d + 1) base l (acc ++ base.extract a.toNat (wrap64 (a + n)).toNat) ((i : Int) + 1) else none) else none) else none) else none) = _
          rw [M.wrap64_id (i := a + n) (by omega) (by omega)]
          by_cases h8 : a + n > (base.size : Int)
          · rw [if_pos h8]; simp only [if_pos h8]; rfl
          · have hsz : (base.extract a.toNat (a + n).toNat).size = n.toNat := by rw [ByteArray.size_extract]; omega
            rw [if_neg h8, if_pos hc2.2.2.1, if_pos (by omega), if_pos (by omega), if_pos (by rw [hsz]; omega), ih _ (by omega) (by rw [M.size_append, hsz]; omega), M.bs_append, pleachref11_Join.cut base a n (by omega) (by omega)]
            simp only [if_neg h8]
        | false =>
          have hc2 := M.pok_own hp
          rw [if_neg (show ¬ false = true by simp)]
          simp only [Bool.false_eq_true, if_false]
          show (if acc.size + o.size ≤ 9223372036854775807 then pleachref11_Join_p.l0 (d + 1) base l (acc ++ o) ((i : Int) + 1) else none) = _
          rw [if_pos (by omega), ih _ (by omega) (by rw [M.size_append]; omega), M.bs_append]
    · rw [if_neg hp, M.djoin, if_neg (show ¬ M.pk (pleachref11_Join.pc ⟨c, a, n, o⟩) = true from hp)]
      rfl
theorem pleachref11_Join.ev (base : ByteArray) (l : List S34) (r : ByteArray × Int) (h : pleachref11_Join.f base l = some r) : ∃ k, pleachref11_Join_p.f k base l = some r := by
  unfold pleachref11_Join.f at h
  split at h
  case isFalse => cases h
  case isTrue hh =>
    have := pleachref11_Join.loop base l hh.1 hh.2 l.length 0 ⟨#[]⟩ (by omega) (by decide)
    rw [List.drop_zero] at this
    refine ⟨l.length + 1, ?_⟩
    unfold pleachref11_Join_p.f
    rw [show (0 : Int) = ((0 : Nat) : Int) from rfl, this, ← h]
    rfl
theorem pleachref11_Join.calls (a0 : ByteArray) (A1 : Option Addr) (c1 : Nat) (l1 : List (S34)) (r1 : ByteArray) (r2 : Int) (w : World) (hr1 : Kd.C k34 w A1 l1.length l1) (hc1 : l1.length ≤ c1) (h : pleachref11_Join.f a0 l1 = some (r1, r2)) :
    Calls Try.prog 18 #[.string a0, .slice A1 l1.length c1] w fun e w' => e = .returned (.tuple #[.string r1, .int .i64 r2]) ∧ Below w.heap.size w w' := by
  obtain ⟨k, hk⟩ := pleachref11_Join.ev _ _ _ h
  exact pleachref11_Join_p.calls (k := k) (w := w) (h := hk) (hr1 := hr1) (hc1 := hc1)

/-! ### pleachref11_Apply: function 22 -/
def pleachref11_Apply.f (a0 : ByteArray) (a1 : ByteArray) : Option (ByteArray × Int) := (pleachref11_Take.f a1).bind fun bt254 => (if bt254.2 = true then ((pleachref11_Join.f a0 bt254.1).bind fun bt258 => (some (bt258.1, bt258.2))) else (some ((⟨#[]⟩ : ByteArray), 3)))
set_option maxHeartbeats 8000000 in
set_option maxRecDepth 100000 in
theorem pleachref11_Apply.calls (a0 : ByteArray) (a1 : ByteArray) (r1 : ByteArray) (r2 : Int) (w : World) (h : pleachref11_Apply.f a0 a1 = some (r1, r2)) :
    Calls Try.prog 22 #[.string a0, .string a1] w fun e w' => e = .returned (.tuple #[.string r1, .int .i64 r2]) ∧ Below w.heap.size w w' := by
  have HB := Aside0.mk (Below.refl w.heap.size w)
  have H : ((pleachref11_Take.f a1).bind fun bt254 => (if bt254.2 = true then ((pleachref11_Join.f a0 bt254.1).bind fun bt258 => (some (bt258.1, bt258.2))) else (some ((⟨#[]⟩ : ByteArray), 3)))) = some (r1, r2) := h
  clear h
  replace H := Option.bind_eq_some_iff.mp H
  obtain ⟨⟨t254, t255⟩, A30, H⟩ := H
  replace H : (if t255 = true then ((pleachref11_Join.f a0 t254).bind fun bt258 => (some (bt258.1, bt258.2))) else (some ((⟨#[]⟩ : ByteArray), 3))) = some (r1, r2) := H
  have A3 := Aside0.mk A30
  clear A30
  by_cases c4 : t255 = true
  · subst c4
    have H1 : ((pleachref11_Join.f a0 t254).bind fun bt258 => (some (bt258.1, bt258.2))) = some (r1, r2) := by rw [if_pos rfl] at H; exact H
    clear H
    have H := H1
    clear H1
    replace H := Option.bind_eq_some_iff.mp H
    obtain ⟨⟨t258, t259⟩, A50, H⟩ := H
    replace H : (some (t258, t259)) = some (r1, r2) := H
    have A5 := Aside0.mk A50
    clear A50
    simp only [Option.some.injEq, Prod.mk.injEq] at H
    obtain ⟨rfl, rfl⟩ := H
    go_enter Try.func22, Try.ntmps22
    go_wp2_with (first | ((with_reducible refine gate_callee (f := 20) rfl ?_); refine M.goes (some 10) Try.func20 #[.string a1] rfl ?_; (with_reducible refine (pleachref11_Take.calls a1 t254 true _ A3.out).mono ?_); rintro e w6 ⟨v256, rfl, ho0, hb⟩; refine ⟨_, rfl, ?_⟩; have n0_ := Aside0.mk (Kd.R_lower ho0 (below_size (M.up HB))); have n1_ := M.upS HB hb; clear HB; have HO257 := n0_; have HB := n1_; clear n0_ n1_; (try clear hb); (try clear ho0); obtain ⟨Ao7, co7, eo7⟩ := Kd.R_slice HO257.out; subst eo7) | ((with_reducible refine gate_callee (f := 18) rfl ?_); refine M.goes (some 17) Try.func18 #[.string a0, .slice Ao7 t254.length co7] rfl ?_; (with_reducible refine (pleachref11_Join.calls a0 _ _ t254 t258 t259 _ ?side1 ?side2 A5.out).mono ?_); (case side1 => repeat (first | exact (Kd.R_reads' HO257.out).2.2 | (with_reducible refine Kd.C_alloc ?_ _) | (with_reducible refine Kd.C_drewN ?_ _) | (with_reducible refine Kd.C_drew ?_))); (case side2 => exact (Kd.R_reads' HO257.out).2.1); rintro e w8 ⟨rfl, hb⟩; refine ⟨_, rfl, ?_⟩; have n0_ := M.roB HO257 hb; have n1_ := M.upS HB hb; clear HO257 HB; have HO257 := n0_; have HB := n1_; clear n0_ n1_; (try clear hb)))
    go_ret2
    exact M.fin (M.up HB)
  · replace c4 := Bool.eq_false_iff.mpr c4
    subst c4
    have H1 : (some ((⟨#[]⟩ : ByteArray), 3)) = some (r1, r2) := by rw [if_neg (show ¬ (false = true) by decide)] at H; exact H
    clear H
    have H := H1
    clear H1
    simp only [Option.some.injEq, Prod.mk.injEq] at H
    obtain ⟨rfl, rfl⟩ := H
    go_enter Try.func22, Try.ntmps22
    go_wp2_with (first | ((with_reducible refine gate_callee (f := 20) rfl ?_); refine M.goes (some 10) Try.func20 #[.string a1] rfl ?_; (with_reducible refine (pleachref11_Take.calls a1 t254 false _ A3.out).mono ?_); rintro e w9 ⟨v256, rfl, ho0, hb⟩; refine ⟨_, rfl, ?_⟩; have n0_ := Aside0.mk (Kd.R_lower ho0 (below_size (M.up HB))); have n1_ := M.upS HB hb; clear HB; have HO257 := n0_; have HB := n1_; clear n0_ n1_; (try clear hb); (try clear ho0)))
    go_ret2
    exact M.fin (M.up HB)

end Go.Proofs.Ytadpicphohobbaa.EDeltaTakes
