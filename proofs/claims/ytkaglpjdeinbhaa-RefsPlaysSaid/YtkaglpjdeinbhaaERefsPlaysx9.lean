-- Written by this session's own program (wip/tools/ext.py) for this claim; Lean checks it.
import Derived.Test.YtkaglpjdeinbhaaERefsPlaysx0
import Derived.Test.YtkaglpjdeinbhaaERefsPlaysx2
import Derived.Test.YtkaglpjdeinbhaaERefsPlaysx3
import Derived.Test.YtkaglpjdeinbhaaERefsPlaysx6
import Derived.Test.YtkaglpjdeinbhaaERefsPlaysx7
import Derived.Test.YtkaglpjdeinbhaaERefsPlaysx8
namespace Go.Proofs.Ytkaglpjdeinbhaa.ERefsPlays
open Go.RowKit Go.Proofs.YtkaglpjdeinbhaaW.PrintWords Go.Proofs.YtkaglpjdeinbhaaW.PrintLast Go.Proofs.YtkaglpjdeinbhaaW.PrintMore
attribute [local go_sem] M.run_leq M.run_gtr M.run_geq max2_int min2_int max_two min_two max_three min_three max_four min_four   -- for this text's walks alone
set_option linter.unusedVariables false
set_option linter.unusedSimpArgs false

/-! ### pleachref37_Play: function 16 -/
def pleachref37_Play.l0 : Nat → List (S42) → List (S36) → Int → Int → Option ((List (S42)) × Int)
  | 0, _, _, _, _ => none
  | k + 1, x0, x10, x11, x12 => if x12 < x11 then (if 0 ≤ x12 then (if x12 < (x10.length : Int) then ((pleachref37_Set.f x0 ((rd_T36 x10 x12).f2) ((rd_T36 x10 x12).f3) ((rd_T36 x10 x12).f4) ((rd_T36 x10 x12).f5)).bind fun bt183 => (if bt183.2 = 0 then (pleachref37_Play.l0 k bt183.1 x10 x11 (wrap64 (x12 + 1))) else (some (([] : List (S42)), bt183.2)))) else (none)) else (none)) else (some (x0, 0))
def pleachref37_Play.f (k : Nat) (l0 : List (S42)) (l1 : List (S36)) : Option ((List (S42)) × Int) := pleachref37_Play.l0 k l0 l1 (l1.length : Int) 0
theorem pleachref37_Play.mono_l : ∀ k, (∀ y0 y1 y2 y3, LeO (pleachref37_Play.l0 k y0 y1 y2 y3) (pleachref37_Play.l0 (k + 1) y0 y1 y2 y3))
  | 0 => fun _ _ _ _ r h => by simp [pleachref37_Play.l0] at h
  | k + 1 => by
    have ih0 := pleachref37_Play.mono_l k
    · intro y0 y1 y2 y3
      unfold pleachref37_Play.l0
      repeat' first
      | (with_reducible exact ih0 _ _ _ _)
      | (with_reducible exact LeO.refl _)
      | (with_reducible exact LeO.none _)
      | (with_reducible refine LeO.ite ?_ ?_)
      | (with_reducible refine LeO.bind ?_ (fun _ => ?_))
      | exact ih0 _ _ _ _
      | exact LeO.none _
      | refine LeO.ite ?_ ?_
      | refine LeO.bind ?_ (fun _ => ?_)
theorem pleachref37_Play.mono : ∀ a0 a1 k, LeO (pleachref37_Play.f k a0 a1) (pleachref37_Play.f (k + 1) a0 a1) := by
  intro a0 a1 k
  have ih0 := pleachref37_Play.mono_l k
  unfold pleachref37_Play.f
  repeat' first
      | (with_reducible exact ih0 _ _ _ _)
      | (with_reducible exact LeO.refl _)
      | (with_reducible exact LeO.none _)
      | (with_reducible refine LeO.ite ?_ ?_)
      | (with_reducible refine LeO.bind ?_ (fun _ => ?_))
      | exact ih0 _ _ _ _
      | exact LeO.none _
      | refine LeO.ite ?_ ?_
      | refine LeO.bind ?_ (fun _ => ?_)
set_option maxHeartbeats 8000000 in
set_option maxRecDepth 100000 in
theorem pleachref37_Play.calls (k : Nat) (P0_ : Nat → Prop) (A0 : Option Addr) (c0 : Nat) (l0 : List (S42)) (A1 : Option Addr) (c1 : Nat) (l1 : List (S36)) (r1 : List (S42)) (r2 : Int) (w : World) (hs0 : Kd.V k42 42 w w.heap.size (fun k_ => P0_ k_) (.slice A0 l0.length c0) l0) (hr1 : Kd.C k36 w A1 l1.length l1) (hc1 : l1.length ≤ c1) (h : pleachref37_Play.f k l0 l1 = some (r1, r2)) :
    Calls Try.prog 16 #[.slice A0 l0.length c0, .slice A1 l1.length c1] w fun e w' => ∃ v0_ : Value, e = .returned (.tuple #[v0_, .int .i64 r2]) ∧ Kd.V k42 42 w' w.heap.size (fun k_ => (P0_ k_ ∨ w.heap.size ≤ k_)) v0_ r1 ∧ Below w.heap.size w w' := by
  have hu36 := Try.underlying36
  have HO0 := Aside0.mk (show Kd.V k42 42 w w.heap.size (fun k_ => (P0_ k_ ∨ w.heap.size ≤ k_)) (.slice A0 l0.length c0) l0 from Kd.V_mono hs0 (fun k_ hk => .inl hk))
  have HR1 := Aside0.mk hr1
  have HC1 := Aside0.mk hc1
  clear hr1 hc1
  have HB := Aside0.mk (Below.refl w.heap.size w)
  have H : (pleachref37_Play.l0 k l0 l1 (l1.length : Int) 0) = some (r1, r2) := h
  clear h
  have H' := Aside0.mk H
  clear H
  go_enter Try.func16, Try.ntmps16
  go_wp2
  go_loopg [0, 12] k (fun kq v0 v12 w' => ∃ (x0_1 : List (S42)) (x12_1 : Int), v12 = .int .i64 x12_1 ∧ Aside0 (pleachref37_Play.l0 kq x0_1 l1 (l1.length : Int) x12_1 = some (r1, r2)) ∧ Aside0 (kq ≤ k) ∧ Aside0 (Kd.V k42 42 w' w.heap.size (fun k_ => (P0_ k_ ∨ w.heap.size ≤ k_)) v0 x0_1) ∧ Aside0 (Below w.heap.size w w'))
  case atStart => exact ⟨(l0), (0), (by first | rfl | (simp; done) | (simp [*]; done) | (simp [M.isEmpty_bne]; done)), H', ⟨Nat.le_refl _⟩, ⟨by (with_reducible repeat (first | apply Kd.V_alloc | apply Kd.V_drewN | apply Kd.V_drew)); exact HO0.out⟩, ⟨M.up HB⟩⟩
  case round =>
    clear H'
    try clear c1
    try clear p2
    obtain ⟨x0_1, x12_1, rfl, HA, HK1, zaa, HB⟩ := hrel
    cases gk with
    | zero => exact absurd HA.out (by simp [pleachref37_Play.l0])
    | succ k1 =>
      have H := HA.out
      clear HA
      simp only [pleachref37_Play.l0] at H
      by_cases c3 : x12_1 < (l1.length : Int)
      · rw [if_pos c3] at H
        have c3b0 : decide (x12_1 < (l1.length : Int)) = true := decide_eq_true c3
        clear c3
        by_cases c4 : 0 ≤ x12_1
        · rw [if_pos c4] at H
          have c4b0 : decide (0 ≤ x12_1) = true := decide_eq_true c4
          clear c4
          by_cases c5 : x12_1 < (l1.length : Int)
          · rw [if_pos c5] at H
            have c5b0 : decide (x12_1 < (l1.length : Int)) = true := decide_eq_true c5
            clear c5
            replace H := Option.bind_eq_some_iff.mp H
            obtain ⟨⟨t183, t184⟩, A60, H⟩ := H
            replace H : (if t184 = 0 then (pleachref37_Play.l0 k1 t183 l1 (l1.length : Int) (wrap64 (x12_1 + 1))) else (some (([] : List (S42)), t184))) = some (r1, r2) := H
            have A6 := Aside0.mk A60
            clear A60
            by_cases c7 : t184 = 0
            · rw [if_pos c7] at H
              have c7b0 : (t184 == 0) = true := beq_iff_eq.mpr c7
              have c7b1 : (t184 != 0) = false := bne_eq_false_iff_eq.mpr c7
              clear c7
              have H' := Aside0.mk H
              clear H
              have p181 : 0 ≤ (x12_1 : Int) := of_decide_eq_true (by first | (with_reducible assumption) | assumption)
              have q181 : x12_1 < (l1.length : Int) := of_decide_eq_true (by first | (with_reducible assumption) | assumption)
              obtain ⟨ad181, e181, hx181_0, hx181_1, hx181_2, hx181_3, hx181_4, hx181_5, hx181_6, hx181_7⟩ := at_T36 HR1.out x12_1 p181 q181
              cases e181
              replace hx181_0 := (HB.out.cell (World.block_lt_of_cell? w _ hx181_0)).trans hx181_0
              replace hx181_1 := (HB.out.cell (World.block_lt_of_cell? w _ hx181_1)).trans hx181_1
              replace hx181_2 := (HB.out.cell (World.block_lt_of_cell? w _ hx181_2)).trans hx181_2
              replace hx181_3 := (HB.out.cell (World.block_lt_of_cell? w _ hx181_3)).trans hx181_3
              replace hx181_4 := (HB.out.cell (World.block_lt_of_cell? w _ hx181_4)).trans hx181_4
              replace hx181_5 := (HB.out.cell (World.block_lt_of_cell? w _ hx181_5)).trans hx181_5
              replace hx181_6 := (HB.out.cell (World.block_lt_of_cell? w _ hx181_6)).trans hx181_6
              replace hx181_7 := (HB.out.cell (World.block_lt_of_cell? w _ hx181_7)).trans hx181_7
              replace p181 := eq_true p181
              replace q181 := eq_true q181
              go_wp2_with (first | ((with_reducible refine gate_dst (N := 7) rfl ?_); refine box_event ?hg (N := 7) ?hd (cs := #[.int .i64 0, .int .i64 0, .int .i64 0, .string (⟨#[]⟩ : ByteArray), .string (⟨#[]⟩ : ByteArray), .string (⟨#[]⟩ : ByteArray), .int .i64 0, .int .i64 0]) (t := 36) ?hr ?_; (case hd => rfl); (case hg => rfl); (case hr => first | (go_simp; done) | (go_simp; rfl)); intro zab hg w8 hbox hb; have n0_ := Aside0.mk (Kd.V_below (Kd.V_elderB (by (with_reducible repeat (first | apply Kd.V_alloc | apply Kd.V_drewN | apply Kd.V_drew)); exact zaa.out) zab (Nat.le_of_eq hg.symm)) hb); have n1_ := M.upS HB hb; have n2_ := Aside0.mk (hbox); have n3_ := M.upG HB hg; have n4_ := M.upG HB hg; clear zaa HB; have zaa := n0_; have HB := n1_; have zac := n2_; have zad := n3_; have zae := n4_; clear n0_ n1_ n2_ n3_ n4_; clear hb hbox hg; have zaf : w8.cell? ⟨zab, 0, none⟩ = some (.int .i64 0) := (blk_cell zac.out 0).trans rfl; have zag : w8.cell? ⟨zab, 1, none⟩ = some (.int .i64 0) := (blk_cell zac.out 1).trans rfl; have zah : w8.cell? ⟨zab, 2, none⟩ = some (.int .i64 0) := (blk_cell zac.out 2).trans rfl; have zai : w8.cell? ⟨zab, 3, none⟩ = some (.string (⟨#[]⟩ : ByteArray)) := (blk_cell zac.out 3).trans rfl; have zaj : w8.cell? ⟨zab, 4, none⟩ = some (.string (⟨#[]⟩ : ByteArray)) := (blk_cell zac.out 4).trans rfl; have zak : w8.cell? ⟨zab, 5, none⟩ = some (.string (⟨#[]⟩ : ByteArray)) := (blk_cell zac.out 5).trans rfl; have zal : w8.cell? ⟨zab, 6, none⟩ = some (.int .i64 0) := (blk_cell zac.out 6).trans rfl; have zam : w8.cell? ⟨zab, 7, none⟩ = some (.int .i64 0) := (blk_cell zac.out 7).trans rfl; have zan := blk_frozen zac.out 0; have zao := blk_frozen zac.out 1; have zap := blk_frozen zac.out 2; have zaq := blk_frozen zac.out 3; have zar := blk_frozen zac.out 4; have zas := blk_frozen zac.out 5; have zat := blk_frozen zac.out 6; have zau := blk_frozen zac.out 7; obtain ⟨Ao10, co10, eo10⟩ := Kd.V_slice zaa.out; subst eo10) | ((with_reducible refine gate_callee (f := 11) rfl ?_); refine M.goes (some 26) Try.func11 #[.slice Ao10 x0_1.length co10, .int .i64 ((rd_T36 l1 x12_1).f2), .string ((rd_T36 l1 x12_1).f3), .string ((rd_T36 l1 x12_1).f4), .string ((rd_T36 l1 x12_1).f5)] rfl ?_; (with_reducible refine (pleachref37_Set.calls _ _ x0_1 ((rd_T36 l1 x12_1).f2) ((rd_T36 l1 x12_1).f3) ((rd_T36 l1 x12_1).f4) ((rd_T36 l1 x12_1).f5) t183 t184 _ ?side1 ?side2 A6.out).mono ?_); (case side1 => refine (Kd.V_reads' (e := 42) (base := w.heap.size) (ok := fun k_ => ((P0_ k_ ∨ w.heap.size ≤ k_) ∧ k_ ≠ zab)) (n := x0_1.length) (c := co10) ?_).2.2; exact (by (with_reducible repeat (first | apply Kd.V_alloc | apply Kd.V_drewN | apply Kd.V_drew)); exact (Kd.V_mono (Kd.V_far (p := ⟨zab, 7, none⟩) (Kd.V_far (p := ⟨zab, 6, none⟩) (Kd.V_far (p := ⟨zab, 5, none⟩) (Kd.V_far (p := ⟨zab, 4, none⟩) (Kd.V_far (p := ⟨zab, 3, none⟩) (Kd.V_far (p := ⟨zab, 2, none⟩) (Kd.V_far (p := ⟨zab, 1, none⟩) (Kd.V_far (p := ⟨zab, 0, none⟩) (Kd.V_mono zaa.out (fun k_ hk => (⟨hk, hk.2⟩ : _ ∧ k_ ≠ zab))) (fun _ hk => hk.2) (.int .i64 ((rd_T36 l1 x12_1).f0))) (fun _ hk => hk.2) (.int .i64 ((rd_T36 l1 x12_1).f1))) (fun _ hk => hk.2) (.int .i64 ((rd_T36 l1 x12_1).f2))) (fun _ hk => hk.2) (.string ((rd_T36 l1 x12_1).f3))) (fun _ hk => hk.2) (.string ((rd_T36 l1 x12_1).f4))) (fun _ hk => hk.2) (.string ((rd_T36 l1 x12_1).f5))) (fun _ hk => hk.2) (.int .i64 ((rd_T36 l1 x12_1).f6))) (fun _ hk => hk.2) (.int .i64 ((rd_T36 l1 x12_1).f7))) (fun _ h_ => h_.1)))); (case side2 => exact (Kd.V_reads' zaa.out).2.1); rintro e w11 ⟨v185, rfl, ho0, hb⟩; refine ⟨_, rfl, ?_⟩; have n0_ := Aside0.mk (Kd.V_elder' (by (with_reducible repeat (first | apply Kd.V_alloc | apply Kd.V_drewN | apply Kd.V_drew)); exact (Kd.V_mono (Kd.V_far (p := ⟨zab, 7, none⟩) (Kd.V_far (p := ⟨zab, 6, none⟩) (Kd.V_far (p := ⟨zab, 5, none⟩) (Kd.V_far (p := ⟨zab, 4, none⟩) (Kd.V_far (p := ⟨zab, 3, none⟩) (Kd.V_far (p := ⟨zab, 2, none⟩) (Kd.V_far (p := ⟨zab, 1, none⟩) (Kd.V_far (p := ⟨zab, 0, none⟩) (Kd.V_mono zaa.out (fun k_ hk => (⟨hk, hk.2⟩ : _ ∧ k_ ≠ zab))) (fun _ hk => hk.2) (.int .i64 ((rd_T36 l1 x12_1).f0))) (fun _ hk => hk.2) (.int .i64 ((rd_T36 l1 x12_1).f1))) (fun _ hk => hk.2) (.int .i64 ((rd_T36 l1 x12_1).f2))) (fun _ hk => hk.2) (.string ((rd_T36 l1 x12_1).f3))) (fun _ hk => hk.2) (.string ((rd_T36 l1 x12_1).f4))) (fun _ hk => hk.2) (.string ((rd_T36 l1 x12_1).f5))) (fun _ hk => hk.2) (.int .i64 ((rd_T36 l1 x12_1).f6))) (fun _ hk => hk.2) (.int .i64 ((rd_T36 l1 x12_1).f7))) (fun _ h_ => h_.1))) (Kd.R_base ho0) hb); have n1_ := Aside0.mk (Kd.R_lower (Kd.R_newM (M := fun k_ => (w.heap.size ≤ k_)) ho0 (below_size (M.up HB)) (fun k_ h_ => h_)) (below_size (M.up HB))); have n2_ := Aside0.mk (blk_below (g := zab) (o := .cells #[.int .i64 ((rd_T36 l1 x12_1).f0), .int .i64 ((rd_T36 l1 x12_1).f1), .int .i64 ((rd_T36 l1 x12_1).f2), .string ((rd_T36 l1 x12_1).f3), .string ((rd_T36 l1 x12_1).f4), .string ((rd_T36 l1 x12_1).f5), .int .i64 ((rd_T36 l1 x12_1).f6), .int .i64 ((rd_T36 l1 x12_1).f7)] 36 (0, 0)) (by (with_reducible repeat (first | refine blk_drewN ?_ _ | refine blk_drew ?_ | refine blk_alloc ?_ _)); refine blk_put (cs := #[.int .i64 ((rd_T36 l1 x12_1).f0), .int .i64 ((rd_T36 l1 x12_1).f1), .int .i64 ((rd_T36 l1 x12_1).f2), .string ((rd_T36 l1 x12_1).f3), .string ((rd_T36 l1 x12_1).f4), .string ((rd_T36 l1 x12_1).f5), .int .i64 ((rd_T36 l1 x12_1).f6), .int .i64 0]) ?_ 7 _ rfl; (with_reducible repeat (first | refine blk_drewN ?_ _ | refine blk_drew ?_ | refine blk_alloc ?_ _)); refine blk_put (cs := #[.int .i64 ((rd_T36 l1 x12_1).f0), .int .i64 ((rd_T36 l1 x12_1).f1), .int .i64 ((rd_T36 l1 x12_1).f2), .string ((rd_T36 l1 x12_1).f3), .string ((rd_T36 l1 x12_1).f4), .string ((rd_T36 l1 x12_1).f5), .int .i64 0, .int .i64 0]) ?_ 6 _ rfl; (with_reducible repeat (first | refine blk_drewN ?_ _ | refine blk_drew ?_ | refine blk_alloc ?_ _)); refine blk_put (cs := #[.int .i64 ((rd_T36 l1 x12_1).f0), .int .i64 ((rd_T36 l1 x12_1).f1), .int .i64 ((rd_T36 l1 x12_1).f2), .string ((rd_T36 l1 x12_1).f3), .string ((rd_T36 l1 x12_1).f4), .string (⟨#[]⟩ : ByteArray), .int .i64 0, .int .i64 0]) ?_ 5 _ rfl; (with_reducible repeat (first | refine blk_drewN ?_ _ | refine blk_drew ?_ | refine blk_alloc ?_ _)); refine blk_put (cs := #[.int .i64 ((rd_T36 l1 x12_1).f0), .int .i64 ((rd_T36 l1 x12_1).f1), .int .i64 ((rd_T36 l1 x12_1).f2), .string ((rd_T36 l1 x12_1).f3), .string (⟨#[]⟩ : ByteArray), .string (⟨#[]⟩ : ByteArray), .int .i64 0, .int .i64 0]) ?_ 4 _ rfl; (with_reducible repeat (first | refine blk_drewN ?_ _ | refine blk_drew ?_ | refine blk_alloc ?_ _)); refine blk_put (cs := #[.int .i64 ((rd_T36 l1 x12_1).f0), .int .i64 ((rd_T36 l1 x12_1).f1), .int .i64 ((rd_T36 l1 x12_1).f2), .string (⟨#[]⟩ : ByteArray), .string (⟨#[]⟩ : ByteArray), .string (⟨#[]⟩ : ByteArray), .int .i64 0, .int .i64 0]) ?_ 3 _ rfl; (with_reducible repeat (first | refine blk_drewN ?_ _ | refine blk_drew ?_ | refine blk_alloc ?_ _)); refine blk_put (cs := #[.int .i64 ((rd_T36 l1 x12_1).f0), .int .i64 ((rd_T36 l1 x12_1).f1), .int .i64 0, .string (⟨#[]⟩ : ByteArray), .string (⟨#[]⟩ : ByteArray), .string (⟨#[]⟩ : ByteArray), .int .i64 0, .int .i64 0]) ?_ 2 _ rfl; (with_reducible repeat (first | refine blk_drewN ?_ _ | refine blk_drew ?_ | refine blk_alloc ?_ _)); refine blk_put (cs := #[.int .i64 ((rd_T36 l1 x12_1).f0), .int .i64 0, .int .i64 0, .string (⟨#[]⟩ : ByteArray), .string (⟨#[]⟩ : ByteArray), .string (⟨#[]⟩ : ByteArray), .int .i64 0, .int .i64 0]) ?_ 1 _ rfl; (with_reducible repeat (first | refine blk_drewN ?_ _ | refine blk_drew ?_ | refine blk_alloc ?_ _)); refine blk_put (cs := #[.int .i64 0, .int .i64 0, .int .i64 0, .string (⟨#[]⟩ : ByteArray), .string (⟨#[]⟩ : ByteArray), .string (⟨#[]⟩ : ByteArray), .int .i64 0, .int .i64 0]) ?_ 0 _ rfl; (with_reducible repeat (first | refine blk_drewN ?_ _ | refine blk_drew ?_ | refine blk_alloc ?_ _)); exact zac.out) hb); have n3_ := M.upS HB hb; clear zaa zac HB; have zaa := n0_; have HO186 := n1_; have zac := n2_; have HB := n3_; clear n0_ n1_ n2_ n3_; (try clear hb); (try clear ho0)))
              go_roundg k1
              case measure => have := HK1.out; omega
              case rel => exact ⟨(t183), (wrap64 (x12_1 + 1)), (by first | rfl | (simp; done) | (simp [*]; done) | (simp [M.isEmpty_bne]; done)), H', ⟨by have := HK1.out; omega⟩, ⟨Kd.V_mono (Kd.R_V (by (with_reducible repeat (first | apply Kd.R_alloc | apply Kd.R_drewN | apply Kd.R_drew)); exact Kd.R_mono HO186.out (fun _ hk => hk.1))) (fun k_ hk => by first | exact ⟨(.inr (hk.1)), hk.2⟩ | exact (.inr (hk)))⟩, ⟨M.up HB⟩⟩
            · rw [if_neg c7] at H
              have c7b0 : (t184 == 0) = false := beq_eq_false_iff_ne.mpr c7
              have c7b1 : (t184 != 0) = true := bne_iff_ne.mpr c7
              simp only [Option.some.injEq, Prod.mk.injEq] at H
              obtain ⟨rfl, rfl⟩ := H
              have p181 : 0 ≤ (x12_1 : Int) := of_decide_eq_true (by first | (with_reducible assumption) | assumption)
              have q181 : x12_1 < (l1.length : Int) := of_decide_eq_true (by first | (with_reducible assumption) | assumption)
              obtain ⟨ad181, e181, hx181_0, hx181_1, hx181_2, hx181_3, hx181_4, hx181_5, hx181_6, hx181_7⟩ := at_T36 HR1.out x12_1 p181 q181
              cases e181
              replace hx181_0 := (HB.out.cell (World.block_lt_of_cell? w _ hx181_0)).trans hx181_0
              replace hx181_1 := (HB.out.cell (World.block_lt_of_cell? w _ hx181_1)).trans hx181_1
              replace hx181_2 := (HB.out.cell (World.block_lt_of_cell? w _ hx181_2)).trans hx181_2
              replace hx181_3 := (HB.out.cell (World.block_lt_of_cell? w _ hx181_3)).trans hx181_3
              replace hx181_4 := (HB.out.cell (World.block_lt_of_cell? w _ hx181_4)).trans hx181_4
              replace hx181_5 := (HB.out.cell (World.block_lt_of_cell? w _ hx181_5)).trans hx181_5
              replace hx181_6 := (HB.out.cell (World.block_lt_of_cell? w _ hx181_6)).trans hx181_6
              replace hx181_7 := (HB.out.cell (World.block_lt_of_cell? w _ hx181_7)).trans hx181_7
              replace p181 := eq_true p181
              replace q181 := eq_true q181
              go_wp2_with (first | ((with_reducible refine gate_dst (N := 7) rfl ?_); refine box_event ?hg (N := 7) ?hd (cs := #[.int .i64 0, .int .i64 0, .int .i64 0, .string (⟨#[]⟩ : ByteArray), .string (⟨#[]⟩ : ByteArray), .string (⟨#[]⟩ : ByteArray), .int .i64 0, .int .i64 0]) (t := 36) ?hr ?_; (case hd => rfl); (case hg => rfl); (case hr => first | (go_simp; done) | (go_simp; rfl)); intro zab hg w12 hbox hb; have n0_ := Aside0.mk (Kd.V_below (Kd.V_elderB (by (with_reducible repeat (first | apply Kd.V_alloc | apply Kd.V_drewN | apply Kd.V_drew)); exact zaa.out) zab (Nat.le_of_eq hg.symm)) hb); have n1_ := M.upS HB hb; have n2_ := Aside0.mk (hbox); have n3_ := M.upG HB hg; have n4_ := M.upG HB hg; clear zaa HB; have zaa := n0_; have HB := n1_; have zac := n2_; have zad := n3_; have zae := n4_; clear n0_ n1_ n2_ n3_ n4_; clear hb hbox hg; have zav : w12.cell? ⟨zab, 0, none⟩ = some (.int .i64 0) := (blk_cell zac.out 0).trans rfl; have zaw : w12.cell? ⟨zab, 1, none⟩ = some (.int .i64 0) := (blk_cell zac.out 1).trans rfl; have zax : w12.cell? ⟨zab, 2, none⟩ = some (.int .i64 0) := (blk_cell zac.out 2).trans rfl; have zay : w12.cell? ⟨zab, 3, none⟩ = some (.string (⟨#[]⟩ : ByteArray)) := (blk_cell zac.out 3).trans rfl; have zaz : w12.cell? ⟨zab, 4, none⟩ = some (.string (⟨#[]⟩ : ByteArray)) := (blk_cell zac.out 4).trans rfl; have zaA : w12.cell? ⟨zab, 5, none⟩ = some (.string (⟨#[]⟩ : ByteArray)) := (blk_cell zac.out 5).trans rfl; have zaB : w12.cell? ⟨zab, 6, none⟩ = some (.int .i64 0) := (blk_cell zac.out 6).trans rfl; have zaC : w12.cell? ⟨zab, 7, none⟩ = some (.int .i64 0) := (blk_cell zac.out 7).trans rfl; have zaD := blk_frozen zac.out 0; have zaE := blk_frozen zac.out 1; have zaF := blk_frozen zac.out 2; have zaG := blk_frozen zac.out 3; have zaH := blk_frozen zac.out 4; have zaI := blk_frozen zac.out 5; have zaJ := blk_frozen zac.out 6; have zaK := blk_frozen zac.out 7; obtain ⟨Ao14, co14, eo14⟩ := Kd.V_slice zaa.out; subst eo14) | ((with_reducible refine gate_callee (f := 11) rfl ?_); refine M.goes (some 26) Try.func11 #[.slice Ao14 x0_1.length co14, .int .i64 ((rd_T36 l1 x12_1).f2), .string ((rd_T36 l1 x12_1).f3), .string ((rd_T36 l1 x12_1).f4), .string ((rd_T36 l1 x12_1).f5)] rfl ?_; (with_reducible refine (pleachref37_Set.calls _ _ x0_1 ((rd_T36 l1 x12_1).f2) ((rd_T36 l1 x12_1).f3) ((rd_T36 l1 x12_1).f4) ((rd_T36 l1 x12_1).f5) t183 t184 _ ?side1 ?side2 A6.out).mono ?_); (case side1 => refine (Kd.V_reads' (e := 42) (base := w.heap.size) (ok := fun k_ => ((P0_ k_ ∨ w.heap.size ≤ k_) ∧ k_ ≠ zab)) (n := x0_1.length) (c := co14) ?_).2.2; exact (by (with_reducible repeat (first | apply Kd.V_alloc | apply Kd.V_drewN | apply Kd.V_drew)); exact (Kd.V_mono (Kd.V_far (p := ⟨zab, 7, none⟩) (Kd.V_far (p := ⟨zab, 6, none⟩) (Kd.V_far (p := ⟨zab, 5, none⟩) (Kd.V_far (p := ⟨zab, 4, none⟩) (Kd.V_far (p := ⟨zab, 3, none⟩) (Kd.V_far (p := ⟨zab, 2, none⟩) (Kd.V_far (p := ⟨zab, 1, none⟩) (Kd.V_far (p := ⟨zab, 0, none⟩) (Kd.V_mono zaa.out (fun k_ hk => (⟨hk, hk.2⟩ : _ ∧ k_ ≠ zab))) (fun _ hk => hk.2) (.int .i64 ((rd_T36 l1 x12_1).f0))) (fun _ hk => hk.2) (.int .i64 ((rd_T36 l1 x12_1).f1))) (fun _ hk => hk.2) (.int .i64 ((rd_T36 l1 x12_1).f2))) (fun _ hk => hk.2) (.string ((rd_T36 l1 x12_1).f3))) (fun _ hk => hk.2) (.string ((rd_T36 l1 x12_1).f4))) (fun _ hk => hk.2) (.string ((rd_T36 l1 x12_1).f5))) (fun _ hk => hk.2) (.int .i64 ((rd_T36 l1 x12_1).f6))) (fun _ hk => hk.2) (.int .i64 ((rd_T36 l1 x12_1).f7))) (fun _ h_ => h_.1)))); (case side2 => exact (Kd.V_reads' zaa.out).2.1); rintro e w15 ⟨v185, rfl, ho0, hb⟩; refine ⟨_, rfl, ?_⟩; have n0_ := Aside0.mk (Kd.V_elder' (by (with_reducible repeat (first | apply Kd.V_alloc | apply Kd.V_drewN | apply Kd.V_drew)); exact (Kd.V_mono (Kd.V_far (p := ⟨zab, 7, none⟩) (Kd.V_far (p := ⟨zab, 6, none⟩) (Kd.V_far (p := ⟨zab, 5, none⟩) (Kd.V_far (p := ⟨zab, 4, none⟩) (Kd.V_far (p := ⟨zab, 3, none⟩) (Kd.V_far (p := ⟨zab, 2, none⟩) (Kd.V_far (p := ⟨zab, 1, none⟩) (Kd.V_far (p := ⟨zab, 0, none⟩) (Kd.V_mono zaa.out (fun k_ hk => (⟨hk, hk.2⟩ : _ ∧ k_ ≠ zab))) (fun _ hk => hk.2) (.int .i64 ((rd_T36 l1 x12_1).f0))) (fun _ hk => hk.2) (.int .i64 ((rd_T36 l1 x12_1).f1))) (fun _ hk => hk.2) (.int .i64 ((rd_T36 l1 x12_1).f2))) (fun _ hk => hk.2) (.string ((rd_T36 l1 x12_1).f3))) (fun _ hk => hk.2) (.string ((rd_T36 l1 x12_1).f4))) (fun _ hk => hk.2) (.string ((rd_T36 l1 x12_1).f5))) (fun _ hk => hk.2) (.int .i64 ((rd_T36 l1 x12_1).f6))) (fun _ hk => hk.2) (.int .i64 ((rd_T36 l1 x12_1).f7))) (fun _ h_ => h_.1))) (Kd.R_base ho0) hb); have n1_ := Aside0.mk (Kd.R_lower (Kd.R_newM (M := fun k_ => (w.heap.size ≤ k_)) ho0 (below_size (M.up HB)) (fun k_ h_ => h_)) (below_size (M.up HB))); have n2_ := Aside0.mk (blk_below (g := zab) (o := .cells #[.int .i64 ((rd_T36 l1 x12_1).f0), .int .i64 ((rd_T36 l1 x12_1).f1), .int .i64 ((rd_T36 l1 x12_1).f2), .string ((rd_T36 l1 x12_1).f3), .string ((rd_T36 l1 x12_1).f4), .string ((rd_T36 l1 x12_1).f5), .int .i64 ((rd_T36 l1 x12_1).f6), .int .i64 ((rd_T36 l1 x12_1).f7)] 36 (0, 0)) (by (with_reducible repeat (first | refine blk_drewN ?_ _ | refine blk_drew ?_ | refine blk_alloc ?_ _)); refine blk_put (cs := #[.int .i64 ((rd_T36 l1 x12_1).f0), .int .i64 ((rd_T36 l1 x12_1).f1), .int .i64 ((rd_T36 l1 x12_1).f2), .string ((rd_T36 l1 x12_1).f3), .string ((rd_T36 l1 x12_1).f4), .string ((rd_T36 l1 x12_1).f5), .int .i64 ((rd_T36 l1 x12_1).f6), .int .i64 0]) ?_ 7 _ rfl; (with_reducible repeat (first | refine blk_drewN ?_ _ | refine blk_drew ?_ | refine blk_alloc ?_ _)); refine blk_put (cs := #[.int .i64 ((rd_T36 l1 x12_1).f0), .int .i64 ((rd_T36 l1 x12_1).f1), .int .i64 ((rd_T36 l1 x12_1).f2), .string ((rd_T36 l1 x12_1).f3), .string ((rd_T36 l1 x12_1).f4), .string ((rd_T36 l1 x12_1).f5), .int .i64 0, .int .i64 0]) ?_ 6 _ rfl; (with_reducible repeat (first | refine blk_drewN ?_ _ | refine blk_drew ?_ | refine blk_alloc ?_ _)); refine blk_put (cs := #[.int .i64 ((rd_T36 l1 x12_1).f0), .int .i64 ((rd_T36 l1 x12_1).f1), .int .i64 ((rd_T36 l1 x12_1).f2), .string ((rd_T36 l1 x12_1).f3), .string ((rd_T36 l1 x12_1).f4), .string (⟨#[]⟩ : ByteArray), .int .i64 0, .int .i64 0]) ?_ 5 _ rfl; (with_reducible repeat (first | refine blk_drewN ?_ _ | refine blk_drew ?_ | refine blk_alloc ?_ _)); refine blk_put (cs := #[.int .i64 ((rd_T36 l1 x12_1).f0), .int .i64 ((rd_T36 l1 x12_1).f1), .int .i64 ((rd_T36 l1 x12_1).f2), .string ((rd_T36 l1 x12_1).f3), .string (⟨#[]⟩ : ByteArray), .string (⟨#[]⟩ : ByteArray), .int .i64 0, .int .i64 0]) ?_ 4 _ rfl; (with_reducible repeat (first | refine blk_drewN ?_ _ | refine blk_drew ?_ | refine blk_alloc ?_ _)); refine blk_put (cs := #[.int .i64 ((rd_T36 l1 x12_1).f0), .int .i64 ((rd_T36 l1 x12_1).f1), .int .i64 ((rd_T36 l1 x12_1).f2), .string (⟨#[]⟩ : ByteArray), .string (⟨#[]⟩ : ByteArray), .string (⟨#[]⟩ : ByteArray), .int .i64 0, .int .i64 0]) ?_ 3 _ rfl; (with_reducible repeat (first | refine blk_drewN ?_ _ | refine blk_drew ?_ | refine blk_alloc ?_ _)); refine blk_put (cs := #[.int .i64 ((rd_T36 l1 x12_1).f0), .int .i64 ((rd_T36 l1 x12_1).f1), .int .i64 0, .string (⟨#[]⟩ : ByteArray), .string (⟨#[]⟩ : ByteArray), .string (⟨#[]⟩ : ByteArray), .int .i64 0, .int .i64 0]) ?_ 2 _ rfl; (with_reducible repeat (first | refine blk_drewN ?_ _ | refine blk_drew ?_ | refine blk_alloc ?_ _)); refine blk_put (cs := #[.int .i64 ((rd_T36 l1 x12_1).f0), .int .i64 0, .int .i64 0, .string (⟨#[]⟩ : ByteArray), .string (⟨#[]⟩ : ByteArray), .string (⟨#[]⟩ : ByteArray), .int .i64 0, .int .i64 0]) ?_ 1 _ rfl; (with_reducible repeat (first | refine blk_drewN ?_ _ | refine blk_drew ?_ | refine blk_alloc ?_ _)); refine blk_put (cs := #[.int .i64 0, .int .i64 0, .int .i64 0, .string (⟨#[]⟩ : ByteArray), .string (⟨#[]⟩ : ByteArray), .string (⟨#[]⟩ : ByteArray), .int .i64 0, .int .i64 0]) ?_ 0 _ rfl; (with_reducible repeat (first | refine blk_drewN ?_ _ | refine blk_drew ?_ | refine blk_alloc ?_ _)); exact zac.out) hb); have n3_ := M.upS HB hb; clear zaa zac HB; have zaa := n0_; have HO186 := n1_; have zac := n2_; have HB := n3_; clear n0_ n1_ n2_ n3_; (try clear hb); (try clear ho0)))
              go_ret2
              exact ⟨_, by first | rfl | (simp [errW_none, errW_some] <;> rfl) | (simp [*, errW_none, errW_some] <;> rfl), Kd.V_nil _ _ _ _ _, M.up HB⟩
          · rw [if_neg c5] at H
            exact absurd H (by simp)
        · rw [if_neg c4] at H
          exact absurd H (by simp)
      · rw [if_neg c3] at H
        have c3b0 : decide (x12_1 < (l1.length : Int)) = false := decide_eq_false c3
        clear c3
        simp only [Option.some.injEq, Prod.mk.injEq] at H
        obtain ⟨rfl, rfl⟩ := H
        go_wp2
        go_ret2
        exact ⟨_, by first | rfl | (simp [errW_none, errW_some] <;> rfl) | (simp [*, errW_none, errW_some] <;> rfl), by (with_reducible repeat (first | apply Kd.V_alloc | apply Kd.V_drewN | apply Kd.V_drew)); exact zaa.out, M.up HB⟩

/-! ### pleachlaw37_RefsPlays: function 4 -/
mutual
def pleachlaw37_RefsPlays.j0 : Nat → List (S42) → List (S36) → Bool → Option (Bool)
  | 0, _, _, _ => none
  | k + 1, x0, x1, x23 => if x23 = true then ((pleachlaw37_awake.f).bind fun t189 => (some t189)) else (pleachlaw37_RefsPlays.l0 k x0 x1 x1 (x1.length : Int) 0)
def pleachlaw37_RefsPlays.l0 : Nat → List (S42) → List (S36) → List (S36) → Int → Int → Option (Bool)
  | 0, _, _, _, _, _ => none
  | k + 1, x0, x1, x25, x26, x27 => if x27 < x26 then (if 0 ≤ x27 then (if x27 < (x25.length : Int) then (if (((rd_T36 x25 x27).f3).size : Int) > 100 then ((pleachlaw37_awake.f).bind fun t192 => (some t192)) else (if (((rd_T36 x25 x27).f4).size : Int) > 200 then ((pleachlaw37_awake.f).bind fun t193 => (some t193)) else (if (((rd_T36 x25 x27).f5).size : Int) > 200 then ((pleachlaw37_awake.f).bind fun t194 => (some t194)) else (pleachlaw37_RefsPlays.l0 k x0 x1 x25 x26 (wrap64 (x27 + 1)))))) else (none)) else (none)) else ((refs_Play.f k x0 x1).bind fun bt195 => ((pleachref37_Play.f k x0 x1).bind fun bt199 => ((pleachref37_Same.f k bt195.1 bt199.1).bind fun t203 => (if t203 = true then (if bt195.2 = bt199.2 then ((pleachlaw37_awake.f).bind fun t204 => (some t204)) else (some false)) else (some false)))))
end
def pleachlaw37_RefsPlays.f (k : Nat) (l0 : List (S42)) (l1 : List (S36)) : Option (Bool) := (pleachref37_Few.f k l0).bind fun t187 => (if t187 = true then ((pleachref37_Wrong.f l0).bind fun t188 => (if t188 = 0 then (pleachlaw37_RefsPlays.j0 k l0 l1 (decide ((l1.length : Int) > 40))) else (pleachlaw37_RefsPlays.j0 k l0 l1 true))) else (pleachlaw37_RefsPlays.j0 k l0 l1 true))
theorem pleachlaw37_RefsPlays.mono_l : ∀ k, (∀ y0 y1 y2, LeO (pleachlaw37_RefsPlays.j0 k y0 y1 y2) (pleachlaw37_RefsPlays.j0 (k + 1) y0 y1 y2)) ∧ (∀ y0 y1 y2 y3 y4, LeO (pleachlaw37_RefsPlays.l0 k y0 y1 y2 y3 y4) (pleachlaw37_RefsPlays.l0 (k + 1) y0 y1 y2 y3 y4))
  | 0 => ⟨fun _ _ _ r h => by simp [pleachlaw37_RefsPlays.j0] at h, fun _ _ _ _ _ r h => by simp [pleachlaw37_RefsPlays.l0] at h⟩
  | k + 1 => by
    obtain ⟨ih0, ih1⟩ := pleachlaw37_RefsPlays.mono_l k
    refine ⟨?_, ?_⟩
    · intro y0 y1 y2
      unfold pleachlaw37_RefsPlays.j0
      repeat' first
      | (with_reducible exact ih0 _ _ _)
      | (with_reducible exact ih1 _ _ _ _ _)
      | (with_reducible exact pleachref37_Few.mono _ _)
      | (with_reducible exact pleachref37_Play.mono _ _ _)
      | (with_reducible exact pleachref37_Same.mono _ _ _)
      | (with_reducible exact refs_Play.mono _ _ _)
      | (with_reducible exact LeO.refl _)
      | (with_reducible exact LeO.none _)
      | (with_reducible refine LeO.ite ?_ ?_)
      | (with_reducible refine LeO.bind ?_ (fun _ => ?_))
      | exact ih0 _ _ _
      | exact ih1 _ _ _ _ _
      | exact pleachref37_Few.mono _ _
      | exact pleachref37_Play.mono _ _ _
      | exact pleachref37_Same.mono _ _ _
      | exact refs_Play.mono _ _ _
      | exact LeO.none _
      | refine LeO.ite ?_ ?_
      | refine LeO.bind ?_ (fun _ => ?_)
    · intro y0 y1 y2 y3 y4
      unfold pleachlaw37_RefsPlays.l0
      repeat' first
      | (with_reducible exact ih0 _ _ _)
      | (with_reducible exact ih1 _ _ _ _ _)
      | (with_reducible exact pleachref37_Few.mono _ _)
      | (with_reducible exact pleachref37_Play.mono _ _ _)
      | (with_reducible exact pleachref37_Same.mono _ _ _)
      | (with_reducible exact refs_Play.mono _ _ _)
      | (with_reducible exact LeO.refl _)
      | (with_reducible exact LeO.none _)
      | (with_reducible refine LeO.ite ?_ ?_)
      | (with_reducible refine LeO.bind ?_ (fun _ => ?_))
      | exact ih0 _ _ _
      | exact ih1 _ _ _ _ _
      | exact pleachref37_Few.mono _ _
      | exact pleachref37_Play.mono _ _ _
      | exact pleachref37_Same.mono _ _ _
      | exact refs_Play.mono _ _ _
      | exact LeO.none _
      | refine LeO.ite ?_ ?_
      | refine LeO.bind ?_ (fun _ => ?_)
theorem pleachlaw37_RefsPlays.mono : ∀ a0 a1 k, LeO (pleachlaw37_RefsPlays.f k a0 a1) (pleachlaw37_RefsPlays.f (k + 1) a0 a1) := by
  intro a0 a1 k
  obtain ⟨ih0, ih1⟩ := pleachlaw37_RefsPlays.mono_l k
  unfold pleachlaw37_RefsPlays.f
  repeat' first
      | (with_reducible exact ih0 _ _ _)
      | (with_reducible exact ih1 _ _ _ _ _)
      | (with_reducible exact pleachref37_Few.mono _ _)
      | (with_reducible exact pleachref37_Play.mono _ _ _)
      | (with_reducible exact pleachref37_Same.mono _ _ _)
      | (with_reducible exact refs_Play.mono _ _ _)
      | (with_reducible exact LeO.refl _)
      | (with_reducible exact LeO.none _)
      | (with_reducible refine LeO.ite ?_ ?_)
      | (with_reducible refine LeO.bind ?_ (fun _ => ?_))
      | exact ih0 _ _ _
      | exact ih1 _ _ _ _ _
      | exact pleachref37_Few.mono _ _
      | exact pleachref37_Play.mono _ _ _
      | exact pleachref37_Same.mono _ _ _
      | exact refs_Play.mono _ _ _
      | exact LeO.none _
      | refine LeO.ite ?_ ?_
      | refine LeO.bind ?_ (fun _ => ?_)
set_option maxHeartbeats 8000000 in
set_option maxRecDepth 100000 in
theorem pleachlaw37_RefsPlays.calls (k : Nat) (A0 : Option Addr) (c0 : Nat) (l0 : List (S42)) (A1 : Option Addr) (c1 : Nat) (l1 : List (S36)) (r : Bool) (w : World) (hr0 : Kd.C k42 w A0 l0.length l0) (hc0 : l0.length ≤ c0) (hr1 : Kd.C k36 w A1 l1.length l1) (hc1 : l1.length ≤ c1) (h : pleachlaw37_RefsPlays.f k l0 l1 = some r) :
    Calls Try.prog 4 #[.slice A0 l0.length c0, .slice A1 l1.length c1] w fun e w' => e = .returned (.bool r) ∧ Below w.heap.size w w' := by
  have hu36 := Try.underlying36
  have HR0 := Aside0.mk hr0
  have HC0 := Aside0.mk hc0
  clear hr0 hc0
  have HR1 := Aside0.mk hr1
  have HC1 := Aside0.mk hc1
  clear hr1 hc1
  have HB := Aside0.mk (Below.refl w.heap.size w)
  have H : ((pleachref37_Few.f k l0).bind fun t187 => (if t187 = true then ((pleachref37_Wrong.f l0).bind fun t188 => (if t188 = 0 then (pleachlaw37_RefsPlays.j0 k l0 l1 (decide ((l1.length : Int) > 40))) else (pleachlaw37_RefsPlays.j0 k l0 l1 true))) else (pleachlaw37_RefsPlays.j0 k l0 l1 true))) = some r := h
  clear h
  have HC3 := Aside0.mk H
  clear H
  go_enter Try.func4, Try.ntmps4
  go_upto_region 1 with (fail)
  go_cut [23] (fun v23 wc => ∃ (kq : Nat) (x23_2 : Bool), v23 = .bool x23_2 ∧ Aside0 (pleachlaw37_RefsPlays.j0 kq l0 l1 x23_2 = some r) ∧ Aside0 (kq ≤ k) ∧ Aside0 (Below w.heap.size w wc))
  case first =>
    have H := HC3.out
    clear HC3
    replace H := Option.bind_eq_some_iff.mp H
    obtain ⟨t187, A40, H⟩ := H
    replace H : (if t187 = true then ((pleachref37_Wrong.f l0).bind fun t188 => (if t188 = 0 then (pleachlaw37_RefsPlays.j0 k l0 l1 (decide ((l1.length : Int) > 40))) else (pleachlaw37_RefsPlays.j0 k l0 l1 true))) else (pleachlaw37_RefsPlays.j0 k l0 l1 true)) = some r := H
    have A4 := Aside0.mk A40
    clear A40
    by_cases c5 : t187 = true
    · subst c5
      have H1 : ((pleachref37_Wrong.f l0).bind fun t188 => (if t188 = 0 then (pleachlaw37_RefsPlays.j0 k l0 l1 (decide ((l1.length : Int) > 40))) else (pleachlaw37_RefsPlays.j0 k l0 l1 true))) = some r := by rw [if_pos rfl] at H; exact H
      clear H
      have H := H1
      clear H1
      replace H := Option.bind_eq_some_iff.mp H
      obtain ⟨t188, A60, H⟩ := H
      replace H : (if t188 = 0 then (pleachlaw37_RefsPlays.j0 k l0 l1 (decide ((l1.length : Int) > 40))) else (pleachlaw37_RefsPlays.j0 k l0 l1 true)) = some r := H
      have A6 := Aside0.mk A60
      clear A60
      by_cases c7 : t188 = 0
      · rw [if_pos c7] at H
        have c7b0 : (t188 == 0) = true := beq_iff_eq.mpr c7
        have c7b1 : (t188 != 0) = false := bne_eq_false_iff_eq.mpr c7
        clear c7
        (first | rw [c7b0] | (simp only [i64_w, i32_w]; rw [c7b0]) | skip)
        have H' := Aside0.mk H
        clear H
        go_wp2_with (first | ((with_reducible refine gate_callee (f := 7) rfl ?_); refine M.goes (some 12) Try.func7 #[.slice A0 l0.length c0] rfl ?_; (with_reducible refine (pleachref37_Few.calls k _ _ l0 true _ ?side1 ?side2 A4.out).mono ?_); (case side1 => exact M.cB HR0 HB); (case side2 => exact HC0.out); rintro e w8 ⟨rfl, hb⟩; refine ⟨_, rfl, ?_⟩; have n0_ := M.upS HB hb; clear HB; have HB := n0_; clear n0_; (try clear hb)) | (go_at_call 8; (with_reducible refine (pleachref37_Wrong.calls _ _ l0 t188 _ ?side1 ?side2 A6.out).mono ?_); (case side1 => exact M.cB HR0 HB); (case side2 => exact HC0.out); rintro e w9 ⟨rfl, hb⟩; have n0_ := M.upS HB hb; clear HB; have HB := n0_; clear n0_; (try clear hb); (try clear hb2); (try clear hk); (try clear hi)))
        go_meet
        case rel => exact ⟨_, (decide ((l1.length : Int) > 40)), (by first | rfl | (simp; done) | (simp [*]; done) | (simp [M.isEmpty_bne]; done)), H', ⟨by first | omega | exact Nat.le_refl _⟩, ⟨M.up HB⟩⟩
      · rw [if_neg c7] at H
        have c7b0 : (t188 == 0) = false := beq_eq_false_iff_ne.mpr c7
        have c7b1 : (t188 != 0) = true := bne_iff_ne.mpr c7
        (first | rw [c7b0] | (simp only [i64_w, i32_w]; rw [c7b0]) | skip)
        have H' := Aside0.mk H
        clear H
        go_wp2_with (first | ((with_reducible refine gate_callee (f := 7) rfl ?_); refine M.goes (some 12) Try.func7 #[.slice A0 l0.length c0] rfl ?_; (with_reducible refine (pleachref37_Few.calls k _ _ l0 true _ ?side1 ?side2 A4.out).mono ?_); (case side1 => exact M.cB HR0 HB); (case side2 => exact HC0.out); rintro e w10 ⟨rfl, hb⟩; refine ⟨_, rfl, ?_⟩; have n0_ := M.upS HB hb; clear HB; have HB := n0_; clear n0_; (try clear hb)) | (go_at_call 8; (with_reducible refine (pleachref37_Wrong.calls _ _ l0 t188 _ ?side1 ?side2 A6.out).mono ?_); (case side1 => exact M.cB HR0 HB); (case side2 => exact HC0.out); rintro e w11 ⟨rfl, hb⟩; have n0_ := M.upS HB hb; clear HB; have HB := n0_; clear n0_; (try clear hb); (try clear hb2); (try clear hk); (try clear hi)))
        go_meet
        case rel => exact ⟨_, (true), (by first | rfl | (simp; done) | (simp [*]; done) | (simp [M.isEmpty_bne]; done)), H', ⟨by first | omega | exact Nat.le_refl _⟩, ⟨M.up HB⟩⟩
    · replace c5 := Bool.eq_false_iff.mpr c5
      subst c5
      have H1 : (pleachlaw37_RefsPlays.j0 k l0 l1 true) = some r := by rw [if_neg (show ¬ (false = true) by decide)] at H; exact H
      clear H
      have H := H1
      clear H1
      have H' := Aside0.mk H
      clear H
      go_wp2_with (first | ((with_reducible refine gate_callee (f := 7) rfl ?_); refine M.goes (some 12) Try.func7 #[.slice A0 l0.length c0] rfl ?_; (with_reducible refine (pleachref37_Few.calls k _ _ l0 false _ ?side1 ?side2 A4.out).mono ?_); (case side1 => exact M.cB HR0 HB); (case side2 => exact HC0.out); rintro e w12 ⟨rfl, hb⟩; refine ⟨_, rfl, ?_⟩; have n0_ := M.upS HB hb; clear HB; have HB := n0_; clear n0_; (try clear hb)))
      go_meet
      case rel => exact ⟨_, (true), (by first | rfl | (simp; done) | (simp [*]; done) | (simp [M.isEmpty_bne]; done)), H', ⟨by first | omega | exact Nat.le_refl _⟩, ⟨M.up HB⟩⟩
  case rest =>
    clear HC3
    try clear c1
    try clear p2
    try clear c4
    try clear c5
    try clear c7
    try clear c7b0
    try clear c7b1
    obtain ⟨kq, x23_2, rfl, HA, HJ2, HB⟩ := hcut
    cases kq with
    | zero => exact absurd HA.out (by simp [pleachlaw37_RefsPlays.j0])
    | succ kj2 =>
      have H := HA.out
      clear HA
      simp only [pleachlaw37_RefsPlays.j0] at H
      by_cases c13 : x23_2 = true
      · subst c13
        have H1 : ((pleachlaw37_awake.f).bind fun t189 => (some t189)) = some r := by rw [if_pos rfl] at H; exact H
        clear H
        have H := H1
        clear H1
        replace H := Option.bind_eq_some_iff.mp H
        obtain ⟨t189, A140, H⟩ := H
        replace H : (some t189) = some r := H
        have A14 := Aside0.mk A140
        clear A140
        obtain rfl := Option.some.inj H
        go_wp2_with (first | ((with_reducible refine gate_callee (f := 9) rfl ?_); refine M.goes (some 24) Try.func9 #[] rfl ?_; (with_reducible refine (pleachlaw37_awake.calls  t189 _ A14.out).mono ?_); rintro e w15 ⟨rfl, hb⟩; refine ⟨_, rfl, ?_⟩; have n0_ := M.upS HB hb; clear HB; have HB := n0_; clear n0_; (try clear hb)))
        go_ret
        exact M.fin (M.up HB)
      · replace c13 := Bool.eq_false_iff.mpr c13
        subst c13
        have H1 : (pleachlaw37_RefsPlays.l0 kj2 l0 l1 l1 (l1.length : Int) 0) = some r := by rw [if_neg (show ¬ (false = true) by decide)] at H; exact H
        clear H
        have H := H1
        clear H1
        have H' := Aside0.mk H
        clear H
        go_wp2
        go_loopg [27] kj2 (fun kq v27 w' => ∃ (x27_2 : Int), v27 = .int .i64 x27_2 ∧ Aside0 (pleachlaw37_RefsPlays.l0 kq l0 l1 l1 (l1.length : Int) x27_2 = some r) ∧ Aside0 (kq ≤ kj2) ∧ Aside0 (Below w.heap.size w w'))
        case atStart => exact ⟨(0), (by first | rfl | (simp; done) | (simp [*]; done) | (simp [M.isEmpty_bne]; done)), H', ⟨Nat.le_refl _⟩, ⟨M.up HB⟩⟩
        case round =>
          clear H'
          try clear c1
          try clear p2
          try clear c4
          try clear c5
          try clear c7
          try clear c7b0
          try clear c7b1
          try clear c9
          try clear c13
          try clear p2
          obtain ⟨x27_2, rfl, HA, HK2, HB⟩ := hrel
          cases gk with
          | zero => exact absurd HA.out (by simp [pleachlaw37_RefsPlays.l0])
          | succ k2 =>
            have H := HA.out
            clear HA
            simp only [pleachlaw37_RefsPlays.l0] at H
            by_cases c16 : x27_2 < (l1.length : Int)
            · rw [if_pos c16] at H
              have c16b0 : decide (x27_2 < (l1.length : Int)) = true := decide_eq_true c16
              clear c16
              by_cases c17 : 0 ≤ x27_2
              · rw [if_pos c17] at H
                have c17b0 : decide (0 ≤ x27_2) = true := decide_eq_true c17
                clear c17
                by_cases c18 : x27_2 < (l1.length : Int)
                · rw [if_pos c18] at H
                  have c18b0 : decide (x27_2 < (l1.length : Int)) = true := decide_eq_true c18
                  clear c18
                  by_cases c19 : (((rd_T36 l1 x27_2).f3).size : Int) > 100
                  · rw [if_pos c19] at H
                    have c19b0 : decide (100 < (((rd_T36 l1 x27_2).f3).size : Int)) = true := decide_eq_true c19
                    have c19b1 : decide (100 < ((rd_T36 l1 x27_2).f3).size) = true := decide_eq_true (by omega)
                    clear c19
                    replace H := Option.bind_eq_some_iff.mp H
                    obtain ⟨t192, A200, H⟩ := H
                    replace H : (some t192) = some r := H
                    have A20 := Aside0.mk A200
                    clear A200
                    obtain rfl := Option.some.inj H
                    have p190 : 0 ≤ (x27_2 : Int) := of_decide_eq_true (by first | (with_reducible assumption) | assumption)
                    have q190 : x27_2 < (l1.length : Int) := of_decide_eq_true (by first | (with_reducible assumption) | assumption)
                    obtain ⟨ad190, e190, hx190_0, hx190_1, hx190_2, hx190_3, hx190_4, hx190_5, hx190_6, hx190_7⟩ := at_T36 HR1.out x27_2 p190 q190
                    cases e190
                    replace hx190_0 := (HB.out.cell (World.block_lt_of_cell? w _ hx190_0)).trans hx190_0
                    replace hx190_1 := (HB.out.cell (World.block_lt_of_cell? w _ hx190_1)).trans hx190_1
                    replace hx190_2 := (HB.out.cell (World.block_lt_of_cell? w _ hx190_2)).trans hx190_2
                    replace hx190_3 := (HB.out.cell (World.block_lt_of_cell? w _ hx190_3)).trans hx190_3
                    replace hx190_4 := (HB.out.cell (World.block_lt_of_cell? w _ hx190_4)).trans hx190_4
                    replace hx190_5 := (HB.out.cell (World.block_lt_of_cell? w _ hx190_5)).trans hx190_5
                    replace hx190_6 := (HB.out.cell (World.block_lt_of_cell? w _ hx190_6)).trans hx190_6
                    replace hx190_7 := (HB.out.cell (World.block_lt_of_cell? w _ hx190_7)).trans hx190_7
                    replace p190 := eq_true p190
                    replace q190 := eq_true q190
                    go_wp2_with (first | ((with_reducible refine gate_dst (N := 6) rfl ?_); (try (refine gate_guard (by rfl) ?_; dsimp only)); refine box_event ?hg (N := 6) ?hd (cs := #[.int .i64 0, .int .i64 0, .int .i64 0, .string (⟨#[]⟩ : ByteArray), .string (⟨#[]⟩ : ByteArray), .string (⟨#[]⟩ : ByteArray), .int .i64 0, .int .i64 0]) (t := 36) ?hr ?_; (case hd => rfl); (case hg => rfl); (case hr => first | (go_simp; done) | (go_simp; rfl)); intro zaL hg w21 hbox hb; have n0_ := M.upS HB hb; have n1_ := Aside0.mk (hbox); have n2_ := M.upG HB hg; have n3_ := M.upG HB hg; clear HB; have HB := n0_; have zaM := n1_; have zaN := n2_; have zaO := n3_; clear n0_ n1_ n2_ n3_; clear hb hbox hg; have zaP : w21.cell? ⟨zaL, 0, none⟩ = some (.int .i64 0) := (blk_cell zaM.out 0).trans rfl; have zaQ : w21.cell? ⟨zaL, 1, none⟩ = some (.int .i64 0) := (blk_cell zaM.out 1).trans rfl; have zaR : w21.cell? ⟨zaL, 2, none⟩ = some (.int .i64 0) := (blk_cell zaM.out 2).trans rfl; have zaS : w21.cell? ⟨zaL, 3, none⟩ = some (.string (⟨#[]⟩ : ByteArray)) := (blk_cell zaM.out 3).trans rfl; have zaT : w21.cell? ⟨zaL, 4, none⟩ = some (.string (⟨#[]⟩ : ByteArray)) := (blk_cell zaM.out 4).trans rfl; have zaU : w21.cell? ⟨zaL, 5, none⟩ = some (.string (⟨#[]⟩ : ByteArray)) := (blk_cell zaM.out 5).trans rfl; have zaV : w21.cell? ⟨zaL, 6, none⟩ = some (.int .i64 0) := (blk_cell zaM.out 6).trans rfl; have zaW : w21.cell? ⟨zaL, 7, none⟩ = some (.int .i64 0) := (blk_cell zaM.out 7).trans rfl; have zaX := blk_frozen zaM.out 0; have zaY := blk_frozen zaM.out 1; have zaZ := blk_frozen zaM.out 2; have za0 := blk_frozen zaM.out 3; have za1 := blk_frozen zaM.out 4; have za2 := blk_frozen zaM.out 5; have za3 := blk_frozen zaM.out 6; have za4 := blk_frozen zaM.out 7) | ((with_reducible refine gate_callee (f := 9) rfl ?_); refine M.goes (some 47) Try.func9 #[] rfl ?_; (with_reducible refine (pleachlaw37_awake.calls  t192 _ A20.out).mono ?_); rintro e w23 ⟨rfl, hb⟩; refine ⟨_, rfl, ?_⟩; have n0_ := Aside0.mk (blk_below (g := zaL) (o := .cells #[.int .i64 ((rd_T36 l1 x27_2).f0), .int .i64 ((rd_T36 l1 x27_2).f1), .int .i64 ((rd_T36 l1 x27_2).f2), .string ((rd_T36 l1 x27_2).f3), .string ((rd_T36 l1 x27_2).f4), .string ((rd_T36 l1 x27_2).f5), .int .i64 ((rd_T36 l1 x27_2).f6), .int .i64 ((rd_T36 l1 x27_2).f7)] 36 (0, 0)) (by (with_reducible repeat (first | refine blk_drewN ?_ _ | refine blk_drew ?_ | refine blk_alloc ?_ _)); refine blk_put (cs := #[.int .i64 ((rd_T36 l1 x27_2).f0), .int .i64 ((rd_T36 l1 x27_2).f1), .int .i64 ((rd_T36 l1 x27_2).f2), .string ((rd_T36 l1 x27_2).f3), .string ((rd_T36 l1 x27_2).f4), .string ((rd_T36 l1 x27_2).f5), .int .i64 ((rd_T36 l1 x27_2).f6), .int .i64 0]) ?_ 7 _ rfl; (with_reducible repeat (first | refine blk_drewN ?_ _ | refine blk_drew ?_ | refine blk_alloc ?_ _)); refine blk_put (cs := #[.int .i64 ((rd_T36 l1 x27_2).f0), .int .i64 ((rd_T36 l1 x27_2).f1), .int .i64 ((rd_T36 l1 x27_2).f2), .string ((rd_T36 l1 x27_2).f3), .string ((rd_T36 l1 x27_2).f4), .string ((rd_T36 l1 x27_2).f5), .int .i64 0, .int .i64 0]) ?_ 6 _ rfl; (with_reducible repeat (first | refine blk_drewN ?_ _ | refine blk_drew ?_ | refine blk_alloc ?_ _)); refine blk_put (cs := #[.int .i64 ((rd_T36 l1 x27_2).f0), .int .i64 ((rd_T36 l1 x27_2).f1), .int .i64 ((rd_T36 l1 x27_2).f2), .string ((rd_T36 l1 x27_2).f3), .string ((rd_T36 l1 x27_2).f4), .string (⟨#[]⟩ : ByteArray), .int .i64 0, .int .i64 0]) ?_ 5 _ rfl; (with_reducible repeat (first | refine blk_drewN ?_ _ | refine blk_drew ?_ | refine blk_alloc ?_ _)); refine blk_put (cs := #[.int .i64 ((rd_T36 l1 x27_2).f0), .int .i64 ((rd_T36 l1 x27_2).f1), .int .i64 ((rd_T36 l1 x27_2).f2), .string ((rd_T36 l1 x27_2).f3), .string (⟨#[]⟩ : ByteArray), .string (⟨#[]⟩ : ByteArray), .int .i64 0, .int .i64 0]) ?_ 4 _ rfl; (with_reducible repeat (first | refine blk_drewN ?_ _ | refine blk_drew ?_ | refine blk_alloc ?_ _)); refine blk_put (cs := #[.int .i64 ((rd_T36 l1 x27_2).f0), .int .i64 ((rd_T36 l1 x27_2).f1), .int .i64 ((rd_T36 l1 x27_2).f2), .string (⟨#[]⟩ : ByteArray), .string (⟨#[]⟩ : ByteArray), .string (⟨#[]⟩ : ByteArray), .int .i64 0, .int .i64 0]) ?_ 3 _ rfl; (with_reducible repeat (first | refine blk_drewN ?_ _ | refine blk_drew ?_ | refine blk_alloc ?_ _)); refine blk_put (cs := #[.int .i64 ((rd_T36 l1 x27_2).f0), .int .i64 ((rd_T36 l1 x27_2).f1), .int .i64 0, .string (⟨#[]⟩ : ByteArray), .string (⟨#[]⟩ : ByteArray), .string (⟨#[]⟩ : ByteArray), .int .i64 0, .int .i64 0]) ?_ 2 _ rfl; (with_reducible repeat (first | refine blk_drewN ?_ _ | refine blk_drew ?_ | refine blk_alloc ?_ _)); refine blk_put (cs := #[.int .i64 ((rd_T36 l1 x27_2).f0), .int .i64 0, .int .i64 0, .string (⟨#[]⟩ : ByteArray), .string (⟨#[]⟩ : ByteArray), .string (⟨#[]⟩ : ByteArray), .int .i64 0, .int .i64 0]) ?_ 1 _ rfl; (with_reducible repeat (first | refine blk_drewN ?_ _ | refine blk_drew ?_ | refine blk_alloc ?_ _)); refine blk_put (cs := #[.int .i64 0, .int .i64 0, .int .i64 0, .string (⟨#[]⟩ : ByteArray), .string (⟨#[]⟩ : ByteArray), .string (⟨#[]⟩ : ByteArray), .int .i64 0, .int .i64 0]) ?_ 0 _ rfl; (with_reducible repeat (first | refine blk_drewN ?_ _ | refine blk_drew ?_ | refine blk_alloc ?_ _)); exact zaM.out) hb); have n1_ := M.upS HB hb; clear zaM HB; have zaM := n0_; have HB := n1_; clear n0_ n1_; (try clear hb)))
                    go_ret
                    exact M.fin (M.up HB)
                  · rw [if_neg c19] at H
                    have c19b0 : decide (100 < (((rd_T36 l1 x27_2).f3).size : Int)) = false := decide_eq_false c19
                    have c19b1 : decide (100 < ((rd_T36 l1 x27_2).f3).size) = false := decide_eq_false (by omega)
                    clear c19
                    by_cases c24 : (((rd_T36 l1 x27_2).f4).size : Int) > 200
                    · rw [if_pos c24] at H
                      have c24b0 : decide (200 < (((rd_T36 l1 x27_2).f4).size : Int)) = true := decide_eq_true c24
                      have c24b1 : decide (200 < ((rd_T36 l1 x27_2).f4).size) = true := decide_eq_true (by omega)
                      clear c24
                      replace H := Option.bind_eq_some_iff.mp H
                      obtain ⟨t193, A250, H⟩ := H
                      replace H : (some t193) = some r := H
                      have A25 := Aside0.mk A250
                      clear A250
                      obtain rfl := Option.some.inj H
                      have p190 : 0 ≤ (x27_2 : Int) := of_decide_eq_true (by first | (with_reducible assumption) | assumption)
                      have q190 : x27_2 < (l1.length : Int) := of_decide_eq_true (by first | (with_reducible assumption) | assumption)
                      obtain ⟨ad190, e190, hx190_0, hx190_1, hx190_2, hx190_3, hx190_4, hx190_5, hx190_6, hx190_7⟩ := at_T36 HR1.out x27_2 p190 q190
                      cases e190
                      replace hx190_0 := (HB.out.cell (World.block_lt_of_cell? w _ hx190_0)).trans hx190_0
                      replace hx190_1 := (HB.out.cell (World.block_lt_of_cell? w _ hx190_1)).trans hx190_1
                      replace hx190_2 := (HB.out.cell (World.block_lt_of_cell? w _ hx190_2)).trans hx190_2
                      replace hx190_3 := (HB.out.cell (World.block_lt_of_cell? w _ hx190_3)).trans hx190_3
                      replace hx190_4 := (HB.out.cell (World.block_lt_of_cell? w _ hx190_4)).trans hx190_4
                      replace hx190_5 := (HB.out.cell (World.block_lt_of_cell? w _ hx190_5)).trans hx190_5
                      replace hx190_6 := (HB.out.cell (World.block_lt_of_cell? w _ hx190_6)).trans hx190_6
                      replace hx190_7 := (HB.out.cell (World.block_lt_of_cell? w _ hx190_7)).trans hx190_7
                      replace p190 := eq_true p190
                      replace q190 := eq_true q190
                      go_wp2_with (first | ((with_reducible refine gate_dst (N := 6) rfl ?_); (try (refine gate_guard (by rfl) ?_; dsimp only)); refine box_event ?hg (N := 6) ?hd (cs := #[.int .i64 0, .int .i64 0, .int .i64 0, .string (⟨#[]⟩ : ByteArray), .string (⟨#[]⟩ : ByteArray), .string (⟨#[]⟩ : ByteArray), .int .i64 0, .int .i64 0]) (t := 36) ?hr ?_; (case hd => rfl); (case hg => rfl); (case hr => first | (go_simp; done) | (go_simp; rfl)); intro zaL hg w26 hbox hb; have n0_ := M.upS HB hb; have n1_ := Aside0.mk (hbox); have n2_ := M.upG HB hg; have n3_ := M.upG HB hg; clear HB; have HB := n0_; have zaM := n1_; have zaN := n2_; have zaO := n3_; clear n0_ n1_ n2_ n3_; clear hb hbox hg; have za5 : w26.cell? ⟨zaL, 0, none⟩ = some (.int .i64 0) := (blk_cell zaM.out 0).trans rfl; have za6 : w26.cell? ⟨zaL, 1, none⟩ = some (.int .i64 0) := (blk_cell zaM.out 1).trans rfl; have za7 : w26.cell? ⟨zaL, 2, none⟩ = some (.int .i64 0) := (blk_cell zaM.out 2).trans rfl; have za8 : w26.cell? ⟨zaL, 3, none⟩ = some (.string (⟨#[]⟩ : ByteArray)) := (blk_cell zaM.out 3).trans rfl; have za9 : w26.cell? ⟨zaL, 4, none⟩ = some (.string (⟨#[]⟩ : ByteArray)) := (blk_cell zaM.out 4).trans rfl; have zba : w26.cell? ⟨zaL, 5, none⟩ = some (.string (⟨#[]⟩ : ByteArray)) := (blk_cell zaM.out 5).trans rfl; have zbb : w26.cell? ⟨zaL, 6, none⟩ = some (.int .i64 0) := (blk_cell zaM.out 6).trans rfl; have zbc : w26.cell? ⟨zaL, 7, none⟩ = some (.int .i64 0) := (blk_cell zaM.out 7).trans rfl; have zbd := blk_frozen zaM.out 0; have zbe := blk_frozen zaM.out 1; have zbf := blk_frozen zaM.out 2; have zbg := blk_frozen zaM.out 3; have zbh := blk_frozen zaM.out 4; have zbi := blk_frozen zaM.out 5; have zbj := blk_frozen zaM.out 6; have zbk := blk_frozen zaM.out 7) | ((with_reducible refine gate_callee (f := 9) rfl ?_); refine M.goes (some 47) Try.func9 #[] rfl ?_; (with_reducible refine (pleachlaw37_awake.calls  t193 _ A25.out).mono ?_); rintro e w28 ⟨rfl, hb⟩; refine ⟨_, rfl, ?_⟩; have n0_ := Aside0.mk (blk_below (g := zaL) (o := .cells #[.int .i64 ((rd_T36 l1 x27_2).f0), .int .i64 ((rd_T36 l1 x27_2).f1), .int .i64 ((rd_T36 l1 x27_2).f2), .string ((rd_T36 l1 x27_2).f3), .string ((rd_T36 l1 x27_2).f4), .string ((rd_T36 l1 x27_2).f5), .int .i64 ((rd_T36 l1 x27_2).f6), .int .i64 ((rd_T36 l1 x27_2).f7)] 36 (0, 0)) (by (with_reducible repeat (first | refine blk_drewN ?_ _ | refine blk_drew ?_ | refine blk_alloc ?_ _)); refine blk_put (cs := #[.int .i64 ((rd_T36 l1 x27_2).f0), .int .i64 ((rd_T36 l1 x27_2).f1), .int .i64 ((rd_T36 l1 x27_2).f2), .string ((rd_T36 l1 x27_2).f3), .string ((rd_T36 l1 x27_2).f4), .string ((rd_T36 l1 x27_2).f5), .int .i64 ((rd_T36 l1 x27_2).f6), .int .i64 0]) ?_ 7 _ rfl; (with_reducible repeat (first | refine blk_drewN ?_ _ | refine blk_drew ?_ | refine blk_alloc ?_ _)); refine blk_put (cs := #[.int .i64 ((rd_T36 l1 x27_2).f0), .int .i64 ((rd_T36 l1 x27_2).f1), .int .i64 ((rd_T36 l1 x27_2).f2), .string ((rd_T36 l1 x27_2).f3), .string ((rd_T36 l1 x27_2).f4), .string ((rd_T36 l1 x27_2).f5), .int .i64 0, .int .i64 0]) ?_ 6 _ rfl; (with_reducible repeat (first | refine blk_drewN ?_ _ | refine blk_drew ?_ | refine blk_alloc ?_ _)); refine blk_put (cs := #[.int .i64 ((rd_T36 l1 x27_2).f0), .int .i64 ((rd_T36 l1 x27_2).f1), .int .i64 ((rd_T36 l1 x27_2).f2), .string ((rd_T36 l1 x27_2).f3), .string ((rd_T36 l1 x27_2).f4), .string (⟨#[]⟩ : ByteArray), .int .i64 0, .int .i64 0]) ?_ 5 _ rfl; (with_reducible repeat (first | refine blk_drewN ?_ _ | refine blk_drew ?_ | refine blk_alloc ?_ _)); refine blk_put (cs := #[.int .i64 ((rd_T36 l1 x27_2).f0), .int .i64 ((rd_T36 l1 x27_2).f1), .int .i64 ((rd_T36 l1 x27_2).f2), .string ((rd_T36 l1 x27_2).f3), .string (⟨#[]⟩ : ByteArray), .string (⟨#[]⟩ : ByteArray), .int .i64 0, .int .i64 0]) ?_ 4 _ rfl; (with_reducible repeat (first | refine blk_drewN ?_ _ | refine blk_drew ?_ | refine blk_alloc ?_ _)); refine blk_put (cs := #[.int .i64 ((rd_T36 l1 x27_2).f0), .int .i64 ((rd_T36 l1 x27_2).f1), .int .i64 ((rd_T36 l1 x27_2).f2), .string (⟨#[]⟩ : ByteArray), .string (⟨#[]⟩ : ByteArray), .string (⟨#[]⟩ : ByteArray), .int .i64 0, .int .i64 0]) ?_ 3 _ rfl; (with_reducible repeat (first | refine blk_drewN ?_ _ | refine blk_drew ?_ | refine blk_alloc ?_ _)); refine blk_put (cs := #[.int .i64 ((rd_T36 l1 x27_2).f0), .int .i64 ((rd_T36 l1 x27_2).f1), .int .i64 0, .string (⟨#[]⟩ : ByteArray), .string (⟨#[]⟩ : ByteArray), .string (⟨#[]⟩ : ByteArray), .int .i64 0, .int .i64 0]) ?_ 2 _ rfl; (with_reducible repeat (first | refine blk_drewN ?_ _ | refine blk_drew ?_ | refine blk_alloc ?_ _)); refine blk_put (cs := #[.int .i64 ((rd_T36 l1 x27_2).f0), .int .i64 0, .int .i64 0, .string (⟨#[]⟩ : ByteArray), .string (⟨#[]⟩ : ByteArray), .string (⟨#[]⟩ : ByteArray), .int .i64 0, .int .i64 0]) ?_ 1 _ rfl; (with_reducible repeat (first | refine blk_drewN ?_ _ | refine blk_drew ?_ | refine blk_alloc ?_ _)); refine blk_put (cs := #[.int .i64 0, .int .i64 0, .int .i64 0, .string (⟨#[]⟩ : ByteArray), .string (⟨#[]⟩ : ByteArray), .string (⟨#[]⟩ : ByteArray), .int .i64 0, .int .i64 0]) ?_ 0 _ rfl; (with_reducible repeat (first | refine blk_drewN ?_ _ | refine blk_drew ?_ | refine blk_alloc ?_ _)); exact zaM.out) hb); have n1_ := M.upS HB hb; clear zaM HB; have zaM := n0_; have HB := n1_; clear n0_ n1_; (try clear hb)))
                      go_ret
                      exact M.fin (M.up HB)
                    · rw [if_neg c24] at H
                      have c24b0 : decide (200 < (((rd_T36 l1 x27_2).f4).size : Int)) = false := decide_eq_false c24
                      have c24b1 : decide (200 < ((rd_T36 l1 x27_2).f4).size) = false := decide_eq_false (by omega)
                      clear c24
                      by_cases c29 : (((rd_T36 l1 x27_2).f5).size : Int) > 200
                      · rw [if_pos c29] at H
                        have c29b0 : decide (200 < (((rd_T36 l1 x27_2).f5).size : Int)) = true := decide_eq_true c29
                        have c29b1 : decide (200 < ((rd_T36 l1 x27_2).f5).size) = true := decide_eq_true (by omega)
                        clear c29
                        replace H := Option.bind_eq_some_iff.mp H
                        obtain ⟨t194, A300, H⟩ := H
                        replace H : (some t194) = some r := H
                        have A30 := Aside0.mk A300
                        clear A300
                        obtain rfl := Option.some.inj H
                        have p190 : 0 ≤ (x27_2 : Int) := of_decide_eq_true (by first | (with_reducible assumption) | assumption)
                        have q190 : x27_2 < (l1.length : Int) := of_decide_eq_true (by first | (with_reducible assumption) | assumption)
                        obtain ⟨ad190, e190, hx190_0, hx190_1, hx190_2, hx190_3, hx190_4, hx190_5, hx190_6, hx190_7⟩ := at_T36 HR1.out x27_2 p190 q190
                        cases e190
                        replace hx190_0 := (HB.out.cell (World.block_lt_of_cell? w _ hx190_0)).trans hx190_0
                        replace hx190_1 := (HB.out.cell (World.block_lt_of_cell? w _ hx190_1)).trans hx190_1
                        replace hx190_2 := (HB.out.cell (World.block_lt_of_cell? w _ hx190_2)).trans hx190_2
                        replace hx190_3 := (HB.out.cell (World.block_lt_of_cell? w _ hx190_3)).trans hx190_3
                        replace hx190_4 := (HB.out.cell (World.block_lt_of_cell? w _ hx190_4)).trans hx190_4
                        replace hx190_5 := (HB.out.cell (World.block_lt_of_cell? w _ hx190_5)).trans hx190_5
                        replace hx190_6 := (HB.out.cell (World.block_lt_of_cell? w _ hx190_6)).trans hx190_6
                        replace hx190_7 := (HB.out.cell (World.block_lt_of_cell? w _ hx190_7)).trans hx190_7
                        replace p190 := eq_true p190
                        replace q190 := eq_true q190
                        go_wp2_with (first | ((with_reducible refine gate_dst (N := 6) rfl ?_); (try (refine gate_guard (by rfl) ?_; dsimp only)); refine box_event ?hg (N := 6) ?hd (cs := #[.int .i64 0, .int .i64 0, .int .i64 0, .string (⟨#[]⟩ : ByteArray), .string (⟨#[]⟩ : ByteArray), .string (⟨#[]⟩ : ByteArray), .int .i64 0, .int .i64 0]) (t := 36) ?hr ?_; (case hd => rfl); (case hg => rfl); (case hr => first | (go_simp; done) | (go_simp; rfl)); intro zaL hg w31 hbox hb; have n0_ := M.upS HB hb; have n1_ := Aside0.mk (hbox); have n2_ := M.upG HB hg; have n3_ := M.upG HB hg; clear HB; have HB := n0_; have zaM := n1_; have zaN := n2_; have zaO := n3_; clear n0_ n1_ n2_ n3_; clear hb hbox hg; have zbl : w31.cell? ⟨zaL, 0, none⟩ = some (.int .i64 0) := (blk_cell zaM.out 0).trans rfl; have zbm : w31.cell? ⟨zaL, 1, none⟩ = some (.int .i64 0) := (blk_cell zaM.out 1).trans rfl; have zbn : w31.cell? ⟨zaL, 2, none⟩ = some (.int .i64 0) := (blk_cell zaM.out 2).trans rfl; have zbo : w31.cell? ⟨zaL, 3, none⟩ = some (.string (⟨#[]⟩ : ByteArray)) := (blk_cell zaM.out 3).trans rfl; have zbp : w31.cell? ⟨zaL, 4, none⟩ = some (.string (⟨#[]⟩ : ByteArray)) := (blk_cell zaM.out 4).trans rfl; have zbq : w31.cell? ⟨zaL, 5, none⟩ = some (.string (⟨#[]⟩ : ByteArray)) := (blk_cell zaM.out 5).trans rfl; have zbr : w31.cell? ⟨zaL, 6, none⟩ = some (.int .i64 0) := (blk_cell zaM.out 6).trans rfl; have zbs : w31.cell? ⟨zaL, 7, none⟩ = some (.int .i64 0) := (blk_cell zaM.out 7).trans rfl; have zbt := blk_frozen zaM.out 0; have zbu := blk_frozen zaM.out 1; have zbv := blk_frozen zaM.out 2; have zbw := blk_frozen zaM.out 3; have zbx := blk_frozen zaM.out 4; have zby := blk_frozen zaM.out 5; have zbz := blk_frozen zaM.out 6; have zbA := blk_frozen zaM.out 7) | ((with_reducible refine gate_callee (f := 9) rfl ?_); refine M.goes (some 47) Try.func9 #[] rfl ?_; (with_reducible refine (pleachlaw37_awake.calls  t194 _ A30.out).mono ?_); rintro e w33 ⟨rfl, hb⟩; refine ⟨_, rfl, ?_⟩; have n0_ := Aside0.mk (blk_below (g := zaL) (o := .cells #[.int .i64 ((rd_T36 l1 x27_2).f0), .int .i64 ((rd_T36 l1 x27_2).f1), .int .i64 ((rd_T36 l1 x27_2).f2), .string ((rd_T36 l1 x27_2).f3), .string ((rd_T36 l1 x27_2).f4), .string ((rd_T36 l1 x27_2).f5), .int .i64 ((rd_T36 l1 x27_2).f6), .int .i64 ((rd_T36 l1 x27_2).f7)] 36 (0, 0)) (by (with_reducible repeat (first | refine blk_drewN ?_ _ | refine blk_drew ?_ | refine blk_alloc ?_ _)); refine blk_put (cs := #[.int .i64 ((rd_T36 l1 x27_2).f0), .int .i64 ((rd_T36 l1 x27_2).f1), .int .i64 ((rd_T36 l1 x27_2).f2), .string ((rd_T36 l1 x27_2).f3), .string ((rd_T36 l1 x27_2).f4), .string ((rd_T36 l1 x27_2).f5), .int .i64 ((rd_T36 l1 x27_2).f6), .int .i64 0]) ?_ 7 _ rfl; (with_reducible repeat (first | refine blk_drewN ?_ _ | refine blk_drew ?_ | refine blk_alloc ?_ _)); refine blk_put (cs := #[.int .i64 ((rd_T36 l1 x27_2).f0), .int .i64 ((rd_T36 l1 x27_2).f1), .int .i64 ((rd_T36 l1 x27_2).f2), .string ((rd_T36 l1 x27_2).f3), .string ((rd_T36 l1 x27_2).f4), .string ((rd_T36 l1 x27_2).f5), .int .i64 0, .int .i64 0]) ?_ 6 _ rfl; (with_reducible repeat (first | refine blk_drewN ?_ _ | refine blk_drew ?_ | refine blk_alloc ?_ _)); refine blk_put (cs := #[.int .i64 ((rd_T36 l1 x27_2).f0), .int .i64 ((rd_T36 l1 x27_2).f1), .int .i64 ((rd_T36 l1 x27_2).f2), .string ((rd_T36 l1 x27_2).f3), .string ((rd_T36 l1 x27_2).f4), .string (⟨#[]⟩ : ByteArray), .int .i64 0, .int .i64 0]) ?_ 5 _ rfl; (with_reducible repeat (first | refine blk_drewN ?_ _ | refine blk_drew ?_ | refine blk_alloc ?_ _)); refine blk_put (cs := #[.int .i64 ((rd_T36 l1 x27_2).f0), .int .i64 ((rd_T36 l1 x27_2).f1), .int .i64 ((rd_T36 l1 x27_2).f2), .string ((rd_T36 l1 x27_2).f3), .string (⟨#[]⟩ : ByteArray), .string (⟨#[]⟩ : ByteArray), .int .i64 0, .int .i64 0]) ?_ 4 _ rfl; (with_reducible repeat (first | refine blk_drewN ?_ _ | refine blk_drew ?_ | refine blk_alloc ?_ _)); refine blk_put (cs := #[.int .i64 ((rd_T36 l1 x27_2).f0), .int .i64 ((rd_T36 l1 x27_2).f1), .int .i64 ((rd_T36 l1 x27_2).f2), .string (⟨#[]⟩ : ByteArray), .string (⟨#[]⟩ : ByteArray), .string (⟨#[]⟩ : ByteArray), .int .i64 0, .int .i64 0]) ?_ 3 _ rfl; (with_reducible repeat (first | refine blk_drewN ?_ _ | refine blk_drew ?_ | refine blk_alloc ?_ _)); refine blk_put (cs := #[.int .i64 ((rd_T36 l1 x27_2).f0), .int .i64 ((rd_T36 l1 x27_2).f1), .int .i64 0, .string (⟨#[]⟩ : ByteArray), .string (⟨#[]⟩ : ByteArray), .string (⟨#[]⟩ : ByteArray), .int .i64 0, .int .i64 0]) ?_ 2 _ rfl; (with_reducible repeat (first | refine blk_drewN ?_ _ | refine blk_drew ?_ | refine blk_alloc ?_ _)); refine blk_put (cs := #[.int .i64 ((rd_T36 l1 x27_2).f0), .int .i64 0, .int .i64 0, .string (⟨#[]⟩ : ByteArray), .string (⟨#[]⟩ : ByteArray), .string (⟨#[]⟩ : ByteArray), .int .i64 0, .int .i64 0]) ?_ 1 _ rfl; (with_reducible repeat (first | refine blk_drewN ?_ _ | refine blk_drew ?_ | refine blk_alloc ?_ _)); refine blk_put (cs := #[.int .i64 0, .int .i64 0, .int .i64 0, .string (⟨#[]⟩ : ByteArray), .string (⟨#[]⟩ : ByteArray), .string (⟨#[]⟩ : ByteArray), .int .i64 0, .int .i64 0]) ?_ 0 _ rfl; (with_reducible repeat (first | refine blk_drewN ?_ _ | refine blk_drew ?_ | refine blk_alloc ?_ _)); exact zaM.out) hb); have n1_ := M.upS HB hb; clear zaM HB; have zaM := n0_; have HB := n1_; clear n0_ n1_; (try clear hb)))
                        go_ret
                        exact M.fin (M.up HB)
                      · rw [if_neg c29] at H
                        have c29b0 : decide (200 < (((rd_T36 l1 x27_2).f5).size : Int)) = false := decide_eq_false c29
                        have c29b1 : decide (200 < ((rd_T36 l1 x27_2).f5).size) = false := decide_eq_false (by omega)
                        clear c29
                        have H' := Aside0.mk H
                        clear H
                        have p190 : 0 ≤ (x27_2 : Int) := of_decide_eq_true (by first | (with_reducible assumption) | assumption)
                        have q190 : x27_2 < (l1.length : Int) := of_decide_eq_true (by first | (with_reducible assumption) | assumption)
                        obtain ⟨ad190, e190, hx190_0, hx190_1, hx190_2, hx190_3, hx190_4, hx190_5, hx190_6, hx190_7⟩ := at_T36 HR1.out x27_2 p190 q190
                        cases e190
                        replace hx190_0 := (HB.out.cell (World.block_lt_of_cell? w _ hx190_0)).trans hx190_0
                        replace hx190_1 := (HB.out.cell (World.block_lt_of_cell? w _ hx190_1)).trans hx190_1
                        replace hx190_2 := (HB.out.cell (World.block_lt_of_cell? w _ hx190_2)).trans hx190_2
                        replace hx190_3 := (HB.out.cell (World.block_lt_of_cell? w _ hx190_3)).trans hx190_3
                        replace hx190_4 := (HB.out.cell (World.block_lt_of_cell? w _ hx190_4)).trans hx190_4
                        replace hx190_5 := (HB.out.cell (World.block_lt_of_cell? w _ hx190_5)).trans hx190_5
                        replace hx190_6 := (HB.out.cell (World.block_lt_of_cell? w _ hx190_6)).trans hx190_6
                        replace hx190_7 := (HB.out.cell (World.block_lt_of_cell? w _ hx190_7)).trans hx190_7
                        replace p190 := eq_true p190
                        replace q190 := eq_true q190
                        go_wp2_with (first | ((with_reducible refine gate_dst (N := 6) rfl ?_); (try (refine gate_guard (by rfl) ?_; dsimp only)); refine box_event ?hg (N := 6) ?hd (cs := #[.int .i64 0, .int .i64 0, .int .i64 0, .string (⟨#[]⟩ : ByteArray), .string (⟨#[]⟩ : ByteArray), .string (⟨#[]⟩ : ByteArray), .int .i64 0, .int .i64 0]) (t := 36) ?hr ?_; (case hd => rfl); (case hg => rfl); (case hr => first | (go_simp; done) | (go_simp; rfl)); intro zaL hg w34 hbox hb; have n0_ := M.upS HB hb; have n1_ := Aside0.mk (hbox); have n2_ := M.upG HB hg; have n3_ := M.upG HB hg; clear HB; have HB := n0_; have zaM := n1_; have zaN := n2_; have zaO := n3_; clear n0_ n1_ n2_ n3_; clear hb hbox hg; have zbB : w34.cell? ⟨zaL, 0, none⟩ = some (.int .i64 0) := (blk_cell zaM.out 0).trans rfl; have zbC : w34.cell? ⟨zaL, 1, none⟩ = some (.int .i64 0) := (blk_cell zaM.out 1).trans rfl; have zbD : w34.cell? ⟨zaL, 2, none⟩ = some (.int .i64 0) := (blk_cell zaM.out 2).trans rfl; have zbE : w34.cell? ⟨zaL, 3, none⟩ = some (.string (⟨#[]⟩ : ByteArray)) := (blk_cell zaM.out 3).trans rfl; have zbF : w34.cell? ⟨zaL, 4, none⟩ = some (.string (⟨#[]⟩ : ByteArray)) := (blk_cell zaM.out 4).trans rfl; have zbG : w34.cell? ⟨zaL, 5, none⟩ = some (.string (⟨#[]⟩ : ByteArray)) := (blk_cell zaM.out 5).trans rfl; have zbH : w34.cell? ⟨zaL, 6, none⟩ = some (.int .i64 0) := (blk_cell zaM.out 6).trans rfl; have zbI : w34.cell? ⟨zaL, 7, none⟩ = some (.int .i64 0) := (blk_cell zaM.out 7).trans rfl; have zbJ := blk_frozen zaM.out 0; have zbK := blk_frozen zaM.out 1; have zbL := blk_frozen zaM.out 2; have zbM := blk_frozen zaM.out 3; have zbN := blk_frozen zaM.out 4; have zbO := blk_frozen zaM.out 5; have zbP := blk_frozen zaM.out 6; have zbQ := blk_frozen zaM.out 7))
                        go_roundg k2
                        case measure => have := HJ2.out; have := HK2.out; omega
                        case rel => exact ⟨(wrap64 (x27_2 + 1)), (by first | rfl | (simp; done) | (simp [*]; done) | (simp [M.isEmpty_bne]; done)), H', ⟨by have := HJ2.out; have := HK2.out; omega⟩, ⟨M.up HB⟩⟩
                · rw [if_neg c18] at H
                  exact absurd H (by simp)
              · rw [if_neg c17] at H
                exact absurd H (by simp)
            · rw [if_neg c16] at H
              have c16b0 : decide (x27_2 < (l1.length : Int)) = false := decide_eq_false c16
              clear c16
              replace H := Option.bind_eq_some_iff.mp H
              obtain ⟨⟨t195, t196⟩, A360, H⟩ := H
              replace H : ((pleachref37_Play.f k2 l0 l1).bind fun bt199 => ((pleachref37_Same.f k2 t195 bt199.1).bind fun t203 => (if t203 = true then (if t196 = bt199.2 then ((pleachlaw37_awake.f).bind fun t204 => (some t204)) else (some false)) else (some false)))) = some r := H
              have A36 := Aside0.mk A360
              clear A360
              replace H := Option.bind_eq_some_iff.mp H
              obtain ⟨⟨t199, t202⟩, A370, H⟩ := H
              replace H : ((pleachref37_Same.f k2 t195 t199).bind fun t203 => (if t203 = true then (if t196 = t202 then ((pleachlaw37_awake.f).bind fun t204 => (some t204)) else (some false)) else (some false))) = some r := H
              have A37 := Aside0.mk A370
              clear A370
              replace H := Option.bind_eq_some_iff.mp H
              obtain ⟨t203, A380, H⟩ := H
              replace H : (if t203 = true then (if t196 = t202 then ((pleachlaw37_awake.f).bind fun t204 => (some t204)) else (some false)) else (some false)) = some r := H
              have A38 := Aside0.mk A380
              clear A380
              by_cases c39 : t203 = true
              · subst c39
                have H1 : (if t196 = t202 then ((pleachlaw37_awake.f).bind fun t204 => (some t204)) else (some false)) = some r := by rw [if_pos rfl] at H; exact H
                clear H
                have H := H1
                clear H1
                by_cases c40 : t196 = t202
                · rw [if_pos c40] at H
                  have c40b0 : (t196 == t202) = true := beq_iff_eq.mpr c40
                  have c40b1 : (t196 != t202) = false := bne_eq_false_iff_eq.mpr c40
                  clear c40
                  replace H := Option.bind_eq_some_iff.mp H
                  obtain ⟨t204, A410, H⟩ := H
                  replace H : (some t204) = some r := H
                  have A41 := Aside0.mk A410
                  clear A410
                  obtain rfl := Option.some.inj H
                  go_wp2_with (first | ((with_reducible refine gate_callee (f := 15) rfl ?_); refine M.goes (some 52) Try.func15 #[.slice A0 l0.length c0, .slice A1 l1.length c1] rfl ?_; (with_reducible refine (refs_Play.calls k2 _ _ l0 _ _ l1 t195 t196 _ ?side1 ?side2 ?side3 ?side4 A36.out).mono ?_); (case side1 => exact M.cB HR0 HB); (case side2 => exact HC0.out); (case side3 => exact M.cB HR1 HB); (case side4 => exact HC1.out); rintro e w42 ⟨v197, rfl, ho0, hb⟩; refine ⟨_, rfl, ?_⟩; have n0_ := Aside0.mk (Kd.R_lower ho0 (below_size (M.up HB))); have n1_ := M.upS HB hb; clear HB; have HO198 := n0_; have HB := n1_; clear n0_ n1_; (try clear hb); (try clear ho0)) | ((with_reducible refine gate_callee (f := 16) rfl ?_); refine M.goes (some 58) Try.func16 #[.slice A0 l0.length c0, .slice A1 l1.length c1] rfl ?_; (with_reducible refine (pleachref37_Play.calls k2 (fun k_ => k_ < w.heap.size) _ _ l0 _ _ l1 t199 t202 _ ?side1 ?side2 ?side3 A37.out).mono ?_); (case side1 => exact Kd.V_mk HC0.out (Kd.F_below (Kd.C_F k42_heap HR0.out) (M.up HB))); (case side2 => exact M.cB HR1 HB); (case side3 => exact HC1.out); rintro e w43 ⟨v200, rfl, ho0, hb⟩; refine ⟨_, rfl, ?_⟩; have n0_ := M.roB HO198 hb; have n1_ := Aside0.mk (Kd.V_lower (Kd.V_mono (ok' := fun k_ => some k_ ≠ (v197 : Value).ownBlock) ho0 (fun k_ hk_ => Or.elim hk_ (fun hs_ => fun e_ => Nat.not_le.2 hs_ (Kd.R_base HO198.out k_ e_.symm)) (fun hn_ => (Kd.fresh' (Kd.R_lt (M.ro HO198)) k_ hn_)))) (below_size (M.up HB))); have n2_ := M.upS HB hb; clear HO198 HB; have HO198 := n0_; have HO201 := n1_; have HB := n2_; clear n0_ n1_ n2_; (try clear hb); (try clear ho0); obtain ⟨Ao44, co44, eo44⟩ := Kd.R_slice HO198.out; subst eo44; obtain ⟨Ao45, co45, eo45⟩ := Kd.V_slice HO201.out; subst eo45) | ((with_reducible refine gate_callee (f := 12) rfl ?_); refine M.goes (some 63) Try.func12 #[.slice Ao44 t195.length co44, .slice Ao45 t199.length co45] rfl ?_; (with_reducible refine (pleachref37_Same.calls k2 _ _ t195 _ _ t199 true _ ?side1 ?side2 ?side3 ?side4 A38.out).mono ?_); (case side1 => repeat (first | exact (Kd.R_reads' HO198.out).2.2 | (with_reducible refine Kd.C_alloc ?_ _) | (with_reducible refine Kd.C_drewN ?_ _) | (with_reducible refine Kd.C_drew ?_))); (case side2 => exact (Kd.R_reads' HO198.out).2.1); (case side3 => repeat (first | exact (Kd.V_reads' HO201.out).2.2 | (with_reducible refine Kd.C_alloc ?_ _) | (with_reducible refine Kd.C_drewN ?_ _) | (with_reducible refine Kd.C_drew ?_))); (case side4 => exact (Kd.V_reads' HO201.out).2.1); rintro e w' ⟨rfl, ⟨nd, rfl⟩⟩; refine ⟨_, rfl, ?_⟩) | (go_at_call 9; (with_reducible refine (pleachlaw37_awake.calls  t204 _ A41.out).mono ?_); rintro e w46 ⟨rfl, hb⟩; have n0_ := M.roB HO198 hb; have n1_ := Aside0.mk (Kd.V_below (by (with_reducible repeat (first | apply Kd.V_alloc | apply Kd.V_drewN | apply Kd.V_drew)); exact HO201.out) hb); have n2_ := M.upS HB hb; clear HO198 HO201 HB; have HO198 := n0_; have HO201 := n1_; have HB := n2_; clear n0_ n1_ n2_; (try clear hb); (try clear hb2); (try clear hk); (try clear hi)))
                  go_ret
                  exact M.fin (M.up HB)
                · rw [if_neg c40] at H
                  have c40b0 : (t196 == t202) = false := beq_eq_false_iff_ne.mpr c40
                  have c40b1 : (t196 != t202) = true := bne_iff_ne.mpr c40
                  obtain rfl := Option.some.inj H
                  go_wp2_with (first | ((with_reducible refine gate_callee (f := 15) rfl ?_); refine M.goes (some 52) Try.func15 #[.slice A0 l0.length c0, .slice A1 l1.length c1] rfl ?_; (with_reducible refine (refs_Play.calls k2 _ _ l0 _ _ l1 t195 t196 _ ?side1 ?side2 ?side3 ?side4 A36.out).mono ?_); (case side1 => exact M.cB HR0 HB); (case side2 => exact HC0.out); (case side3 => exact M.cB HR1 HB); (case side4 => exact HC1.out); rintro e w47 ⟨v197, rfl, ho0, hb⟩; refine ⟨_, rfl, ?_⟩; have n0_ := Aside0.mk (Kd.R_lower ho0 (below_size (M.up HB))); have n1_ := M.upS HB hb; clear HB; have HO198 := n0_; have HB := n1_; clear n0_ n1_; (try clear hb); (try clear ho0)) | ((with_reducible refine gate_callee (f := 16) rfl ?_); refine M.goes (some 58) Try.func16 #[.slice A0 l0.length c0, .slice A1 l1.length c1] rfl ?_; (with_reducible refine (pleachref37_Play.calls k2 (fun k_ => k_ < w.heap.size) _ _ l0 _ _ l1 t199 t202 _ ?side1 ?side2 ?side3 A37.out).mono ?_); (case side1 => exact Kd.V_mk HC0.out (Kd.F_below (Kd.C_F k42_heap HR0.out) (M.up HB))); (case side2 => exact M.cB HR1 HB); (case side3 => exact HC1.out); rintro e w48 ⟨v200, rfl, ho0, hb⟩; refine ⟨_, rfl, ?_⟩; have n0_ := M.roB HO198 hb; have n1_ := Aside0.mk (Kd.V_lower (Kd.V_mono (ok' := fun k_ => some k_ ≠ (v197 : Value).ownBlock) ho0 (fun k_ hk_ => Or.elim hk_ (fun hs_ => fun e_ => Nat.not_le.2 hs_ (Kd.R_base HO198.out k_ e_.symm)) (fun hn_ => (Kd.fresh' (Kd.R_lt (M.ro HO198)) k_ hn_)))) (below_size (M.up HB))); have n2_ := M.upS HB hb; clear HO198 HB; have HO198 := n0_; have HO201 := n1_; have HB := n2_; clear n0_ n1_ n2_; (try clear hb); (try clear ho0); obtain ⟨Ao49, co49, eo49⟩ := Kd.R_slice HO198.out; subst eo49; obtain ⟨Ao50, co50, eo50⟩ := Kd.V_slice HO201.out; subst eo50) | ((with_reducible refine gate_callee (f := 12) rfl ?_); refine M.goes (some 63) Try.func12 #[.slice Ao49 t195.length co49, .slice Ao50 t199.length co50] rfl ?_; (with_reducible refine (pleachref37_Same.calls k2 _ _ t195 _ _ t199 true _ ?side1 ?side2 ?side3 ?side4 A38.out).mono ?_); (case side1 => repeat (first | exact (Kd.R_reads' HO198.out).2.2 | (with_reducible refine Kd.C_alloc ?_ _) | (with_reducible refine Kd.C_drewN ?_ _) | (with_reducible refine Kd.C_drew ?_))); (case side2 => exact (Kd.R_reads' HO198.out).2.1); (case side3 => repeat (first | exact (Kd.V_reads' HO201.out).2.2 | (with_reducible refine Kd.C_alloc ?_ _) | (with_reducible refine Kd.C_drewN ?_ _) | (with_reducible refine Kd.C_drew ?_))); (case side4 => exact (Kd.V_reads' HO201.out).2.1); rintro e w' ⟨rfl, ⟨nd, rfl⟩⟩; refine ⟨_, rfl, ?_⟩))
                  go_ret
                  exact M.fin (M.up HB)
              · replace c39 := Bool.eq_false_iff.mpr c39
                subst c39
                have H1 : (some false) = some r := by rw [if_neg (show ¬ (false = true) by decide)] at H; exact H
                clear H
                have H := H1
                clear H1
                obtain rfl := Option.some.inj H
                go_wp2_with (first | ((with_reducible refine gate_callee (f := 15) rfl ?_); refine M.goes (some 52) Try.func15 #[.slice A0 l0.length c0, .slice A1 l1.length c1] rfl ?_; (with_reducible refine (refs_Play.calls k2 _ _ l0 _ _ l1 t195 t196 _ ?side1 ?side2 ?side3 ?side4 A36.out).mono ?_); (case side1 => exact M.cB HR0 HB); (case side2 => exact HC0.out); (case side3 => exact M.cB HR1 HB); (case side4 => exact HC1.out); rintro e w51 ⟨v197, rfl, ho0, hb⟩; refine ⟨_, rfl, ?_⟩; have n0_ := Aside0.mk (Kd.R_lower ho0 (below_size (M.up HB))); have n1_ := M.upS HB hb; clear HB; have HO198 := n0_; have HB := n1_; clear n0_ n1_; (try clear hb); (try clear ho0)) | ((with_reducible refine gate_callee (f := 16) rfl ?_); refine M.goes (some 58) Try.func16 #[.slice A0 l0.length c0, .slice A1 l1.length c1] rfl ?_; (with_reducible refine (pleachref37_Play.calls k2 (fun k_ => k_ < w.heap.size) _ _ l0 _ _ l1 t199 t202 _ ?side1 ?side2 ?side3 A37.out).mono ?_); (case side1 => exact Kd.V_mk HC0.out (Kd.F_below (Kd.C_F k42_heap HR0.out) (M.up HB))); (case side2 => exact M.cB HR1 HB); (case side3 => exact HC1.out); rintro e w52 ⟨v200, rfl, ho0, hb⟩; refine ⟨_, rfl, ?_⟩; have n0_ := M.roB HO198 hb; have n1_ := Aside0.mk (Kd.V_lower (Kd.V_mono (ok' := fun k_ => some k_ ≠ (v197 : Value).ownBlock) ho0 (fun k_ hk_ => Or.elim hk_ (fun hs_ => fun e_ => Nat.not_le.2 hs_ (Kd.R_base HO198.out k_ e_.symm)) (fun hn_ => (Kd.fresh' (Kd.R_lt (M.ro HO198)) k_ hn_)))) (below_size (M.up HB))); have n2_ := M.upS HB hb; clear HO198 HB; have HO198 := n0_; have HO201 := n1_; have HB := n2_; clear n0_ n1_ n2_; (try clear hb); (try clear ho0); obtain ⟨Ao53, co53, eo53⟩ := Kd.R_slice HO198.out; subst eo53; obtain ⟨Ao54, co54, eo54⟩ := Kd.V_slice HO201.out; subst eo54) | ((with_reducible refine gate_callee (f := 12) rfl ?_); refine M.goes (some 63) Try.func12 #[.slice Ao53 t195.length co53, .slice Ao54 t199.length co54] rfl ?_; (with_reducible refine (pleachref37_Same.calls k2 _ _ t195 _ _ t199 false _ ?side1 ?side2 ?side3 ?side4 A38.out).mono ?_); (case side1 => repeat (first | exact (Kd.R_reads' HO198.out).2.2 | (with_reducible refine Kd.C_alloc ?_ _) | (with_reducible refine Kd.C_drewN ?_ _) | (with_reducible refine Kd.C_drew ?_))); (case side2 => exact (Kd.R_reads' HO198.out).2.1); (case side3 => repeat (first | exact (Kd.V_reads' HO201.out).2.2 | (with_reducible refine Kd.C_alloc ?_ _) | (with_reducible refine Kd.C_drewN ?_ _) | (with_reducible refine Kd.C_drew ?_))); (case side4 => exact (Kd.V_reads' HO201.out).2.1); rintro e w' ⟨rfl, ⟨nd, rfl⟩⟩; refine ⟨_, rfl, ?_⟩))
                go_ret
                exact M.fin (M.up HB)

/-- What is known of a record that came in. -/
def Good42 (x : S42) : Prop := ((Lit.int .i64 x.f0).wf = true) ∧ (x.f1.size ≤ 9223372036854775807) ∧ (x.f2.size ≤ 9223372036854775807)
/-- What is known of a record that came in. -/
def Good36 (x : S36) : Prop := ((Lit.int .i64 x.f0).wf = true) ∧ ((Lit.int .i64 x.f1).wf = true) ∧ ((Lit.int .i64 x.f2).wf = true) ∧ (x.f3.size ≤ 9223372036854775807) ∧ (x.f4.size ≤ 9223372036854775807) ∧ (x.f5.size ≤ 9223372036854775807) ∧ ((Lit.int .i64 x.f6).wf = true) ∧ ((Lit.int .i64 x.f7).wf = true)
/-- THE ONE PURE STATEMENT of pleachlaw37_RefsPlays: this session's form. -/
def pleachlaw37_RefsPlays.Pure : Prop := ∀ (l0 : List (S42)) (l1 : List (S36)), ((∀ y ∈ l0, Good42 y) ∧ l0.length ≤ 9223372036854775807) → ((∀ y ∈ l1, Good36 y) ∧ l1.length ≤ 9223372036854775807) → ∃ k, pleachlaw37_RefsPlays.f k l0 l1 = some true

end Go.Proofs.Ytkaglpjdeinbhaa.ERefsPlays
