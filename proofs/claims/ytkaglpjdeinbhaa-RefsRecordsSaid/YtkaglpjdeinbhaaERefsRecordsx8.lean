-- Written by this session's own program (wip/tools/ext.py) for this claim; Lean checks it.
import Derived.Test.YtkaglpjdeinbhaaERefsRecordsx0
import Derived.Test.YtkaglpjdeinbhaaERefsRecordsx2
import Derived.Test.YtkaglpjdeinbhaaERefsRecordsx6
import Derived.Test.YtkaglpjdeinbhaaERefsRecordsx7
namespace Go.Proofs.Ytkaglpjdeinbhaa.ERefsRecords
open Go.RowKit Go.Proofs.YtkaglpjdeinbhaaW.PrintWords Go.Proofs.YtkaglpjdeinbhaaW.PrintLast Go.Proofs.YtkaglpjdeinbhaaW.PrintMore
attribute [local go_sem] M.run_leq M.run_gtr M.run_geq max2_int min2_int max_two min_two max_three min_three max_four min_four   -- for this text's walks alone
set_option linter.unusedVariables false
set_option linter.unusedSimpArgs false

attribute [local go_sem high] eqA42
/-! ### pleachref37_Same: function 12 -/
def pleachref37_Same.l0 : Nat → List (S42) → List (S42) → Int → Int → Option (Bool)
  | 0, _, _, _, _ => none
  | k + 1, x0, x1, x12, x13 => if x13 < x12 then (if 0 ≤ x13 then (if x13 < (x0.length : Int) then (if x13 < (x1.length : Int) then (if (!(((rd_T42 x0 x13).f0) == ((rd_T42 x1 x13).f0)) || (!((((rd_T42 x0 x13).f1).toList) == (((rd_T42 x1 x13).f1).toList)) || (!((((rd_T42 x0 x13).f2).toList) == (((rd_T42 x1 x13).f2).toList))))) = true then (some false) else (pleachref37_Same.l0 k x0 x1 x12 (wrap64 (x13 + 1)))) else (none)) else (none)) else (none)) else (some true)
def pleachref37_Same.f (k : Nat) (l0 : List (S42)) (l1 : List (S42)) : Option (Bool) := if (l0.length : Int) = (l1.length : Int) then (pleachref37_Same.l0 k l0 l1 (l0.length : Int) 0) else (some false)
theorem pleachref37_Same.mono_l : ∀ k, (∀ y0 y1 y2 y3, LeO (pleachref37_Same.l0 k y0 y1 y2 y3) (pleachref37_Same.l0 (k + 1) y0 y1 y2 y3))
  | 0 => fun _ _ _ _ r h => by simp [pleachref37_Same.l0] at h
  | k + 1 => by
    have ih0 := pleachref37_Same.mono_l k
    · intro y0 y1 y2 y3
      unfold pleachref37_Same.l0
      repeat' first
      | (with_reducible exact ih0 _ _ _ _)
      | (with_reducible exact LeO.refl _)
      | (with_reducible exact LeO.none _)
      | (with_reducible refine LeO.ite ?_ ?_)
      | (with_reducible refine LeO.bind ?_ (fun _ => ?_))
      | exact ih0 _ _ _ _
      | exact LeO.none _
      | refine LeO.ite ?_ ?_
      | refine LeO.bind ?_ (fun _ => ?_)
theorem pleachref37_Same.mono : ∀ a0 a1 k, LeO (pleachref37_Same.f k a0 a1) (pleachref37_Same.f (k + 1) a0 a1) := by
  intro a0 a1 k
  have ih0 := pleachref37_Same.mono_l k
  unfold pleachref37_Same.f
  repeat' first
      | (with_reducible exact ih0 _ _ _ _)
      | (with_reducible exact LeO.refl _)
      | (with_reducible exact LeO.none _)
      | (with_reducible refine LeO.ite ?_ ?_)
      | (with_reducible refine LeO.bind ?_ (fun _ => ?_))
      | exact ih0 _ _ _ _
      | exact LeO.none _
      | refine LeO.ite ?_ ?_
      | refine LeO.bind ?_ (fun _ => ?_)
set_option maxHeartbeats 8000000 in
set_option maxRecDepth 100000 in
theorem pleachref37_Same.calls (k : Nat) (A0 : Option Addr) (c0 : Nat) (l0 : List (S42)) (A1 : Option Addr) (c1 : Nat) (l1 : List (S42)) (r : Bool) (w : World) (hr0 : Kd.C k42 w A0 l0.length l0) (hc0 : l0.length ≤ c0) (hr1 : Kd.C k42 w A1 l1.length l1) (hc1 : l1.length ≤ c1) (h : pleachref37_Same.f k l0 l1 = some r) :
    Calls Try.prog 12 #[.slice A0 l0.length c0, .slice A1 l1.length c1] w fun e w' => e = .returned (.bool r) ∧ Drawn0 w w' := by
  have hu42 := Try.underlying42
  have HR0 := Aside0.mk hr0
  have HC0 := Aside0.mk hc0
  clear hr0 hc0
  have HR1 := Aside0.mk hr1
  have HC1 := Aside0.mk hc1
  clear hr1 hc1
  have H : (if (l0.length : Int) = (l1.length : Int) then (pleachref37_Same.l0 k l0 l1 (l0.length : Int) 0) else (some false)) = some r := h
  clear h
  by_cases c3 : (l0.length : Int) = (l1.length : Int)
  · rw [if_pos c3] at H
    have c3b0 : ((l0.length : Int) == (l1.length : Int)) = true := beq_iff_eq.mpr c3
    have c3b1 : ((l0.length : Int) != (l1.length : Int)) = false := bne_eq_false_iff_eq.mpr c3
    have c3b2 : (l0.length == l1.length) = true := by first | simpa using c3 | (simp at c3 ⊢; omega)
    clear c3
    have H' := Aside0.mk H
    clear H
    go_enter Try.func12, Try.ntmps12
    go_wp2
    repeat (go_quiet (fail); try go_wp2)
    go_loopg [13] k (fun kq v13 w' => ∃ (x13_1 : Int), v13 = .int .i64 x13_1 ∧ Aside0 (pleachref37_Same.l0 kq l0 l1 (l0.length : Int) x13_1 = some r) ∧ Aside0 (kq ≤ k) ∧ Drawn0 w w')
    case atStart => exact ⟨(0), (by first | rfl | (simp; done) | (simp [*]; done) | (simp [M.isEmpty_bne]; done)), H', ⟨Nat.le_refl _⟩, by repeat (first | exact Drawn0.refl _ | apply Drawn0.step)⟩
    case round =>
      clear H'
      try clear c1
      try clear p2
      try clear c3
      try clear c3b0
      try clear c3b1
      try clear c3b2
      obtain ⟨x13_1, rfl, HA, HK1, ⟨m1, rfl⟩⟩ := hrel
      cases gk with
      | zero => exact absurd HA.out (by simp [pleachref37_Same.l0])
      | succ k1 =>
        have H := HA.out
        clear HA
        simp only [pleachref37_Same.l0] at H
        by_cases c4 : x13_1 < (l0.length : Int)
        · rw [if_pos c4] at H
          have c4b0 : decide (x13_1 < (l0.length : Int)) = true := decide_eq_true c4
          clear c4
          by_cases c5 : 0 ≤ x13_1
          · rw [if_pos c5] at H
            have c5b0 : decide (0 ≤ x13_1) = true := decide_eq_true c5
            clear c5
            by_cases c6 : x13_1 < (l0.length : Int)
            · rw [if_pos c6] at H
              have c6b0 : decide (x13_1 < (l0.length : Int)) = true := decide_eq_true c6
              clear c6
              by_cases c7 : x13_1 < (l1.length : Int)
              · rw [if_pos c7] at H
                have c7b0 : decide (x13_1 < (l1.length : Int)) = true := decide_eq_true c7
                clear c7
                by_cases c8 : (!(((rd_T42 l0 x13_1).f0) == ((rd_T42 l1 x13_1).f0)) || (!((((rd_T42 l0 x13_1).f1).toList) == (((rd_T42 l1 x13_1).f1).toList)) || (!((((rd_T42 l0 x13_1).f2).toList) == (((rd_T42 l1 x13_1).f2).toList))))) = true
                · rw [if_pos c8] at H
                  have c8b0 : (!(((rd_T42 l0 x13_1).f0) == ((rd_T42 l1 x13_1).f0)) || (!((((rd_T42 l0 x13_1).f1).toList) == (((rd_T42 l1 x13_1).f1).toList)) || (!((((rd_T42 l0 x13_1).f2).toList) == (((rd_T42 l1 x13_1).f2).toList))))) = true := c8
                  clear c8
                  obtain rfl := Option.some.inj H
                  have p150 : 0 ≤ (x13_1 : Int) := of_decide_eq_true (by first | (with_reducible assumption) | assumption)
                  have q150 : x13_1 < (l0.length : Int) := of_decide_eq_true (by first | (with_reducible assumption) | assumption)
                  obtain ⟨ad150, e150, hx150_0, hx150_1, hx150_2⟩ := at_T42 HR0.out x13_1 p150 q150
                  cases e150
                  replace p150 := eq_true p150
                  replace q150 := eq_true q150
                  have p151 : 0 ≤ (x13_1 : Int) := of_decide_eq_true (by first | (with_reducible assumption) | assumption)
                  have q151 : x13_1 < (l1.length : Int) := of_decide_eq_true (by first | (with_reducible assumption) | assumption)
                  obtain ⟨ad151, e151, hx151_0, hx151_1, hx151_2⟩ := at_T42 HR1.out x13_1 p151 q151
                  cases e151
                  replace p151 := eq_true p151
                  replace q151 := eq_true q151
                  go_wp2
                  repeat (go_quiet (fail); try go_wp2)
                  go_ret
                  exact ⟨by first | rfl | (simp; done) | (simp [*]; done), by repeat (first | exact Drawn0.refl _ | apply Drawn0.step)⟩
                · rw [if_neg c8] at H
                  have c8b0 : (!(((rd_T42 l0 x13_1).f0) == ((rd_T42 l1 x13_1).f0)) || (!((((rd_T42 l0 x13_1).f1).toList) == (((rd_T42 l1 x13_1).f1).toList)) || (!((((rd_T42 l0 x13_1).f2).toList) == (((rd_T42 l1 x13_1).f2).toList))))) = false := by simpa using c8
                  clear c8
                  have H' := Aside0.mk H
                  clear H
                  have p150 : 0 ≤ (x13_1 : Int) := of_decide_eq_true (by first | (with_reducible assumption) | assumption)
                  have q150 : x13_1 < (l0.length : Int) := of_decide_eq_true (by first | (with_reducible assumption) | assumption)
                  obtain ⟨ad150, e150, hx150_0, hx150_1, hx150_2⟩ := at_T42 HR0.out x13_1 p150 q150
                  cases e150
                  replace p150 := eq_true p150
                  replace q150 := eq_true q150
                  have p151 : 0 ≤ (x13_1 : Int) := of_decide_eq_true (by first | (with_reducible assumption) | assumption)
                  have q151 : x13_1 < (l1.length : Int) := of_decide_eq_true (by first | (with_reducible assumption) | assumption)
                  obtain ⟨ad151, e151, hx151_0, hx151_1, hx151_2⟩ := at_T42 HR1.out x13_1 p151 q151
                  cases e151
                  replace p151 := eq_true p151
                  replace q151 := eq_true q151
                  go_wp2
                  repeat (go_quiet (fail); try go_wp2)
                  go_roundg k1
                  case measure => have := HK1.out; omega
                  case rel => exact ⟨(wrap64 (x13_1 + 1)), (by first | rfl | (simp; done) | (simp [*]; done) | (simp [M.isEmpty_bne]; done)), H', ⟨by have := HK1.out; omega⟩, by repeat (first | exact Drawn0.refl _ | apply Drawn0.step)⟩
              · rw [if_neg c7] at H
                exact absurd H (by simp)
            · rw [if_neg c6] at H
              exact absurd H (by simp)
          · rw [if_neg c5] at H
            exact absurd H (by simp)
        · rw [if_neg c4] at H
          have c4b0 : decide (x13_1 < (l0.length : Int)) = false := decide_eq_false c4
          clear c4
          obtain rfl := Option.some.inj H
          go_wp2
          repeat (go_quiet (fail); try go_wp2)
          go_ret
          exact ⟨by first | rfl | (simp; done) | (simp [*]; done), by repeat (first | exact Drawn0.refl _ | apply Drawn0.step)⟩
  · rw [if_neg c3] at H
    have c3b0 : ((l0.length : Int) == (l1.length : Int)) = false := beq_eq_false_iff_ne.mpr c3
    have c3b1 : ((l0.length : Int) != (l1.length : Int)) = true := bne_iff_ne.mpr c3
    have c3b2 : (l0.length == l1.length) = false := by first | simpa using c3 | (simp at c3 ⊢; omega)
    obtain rfl := Option.some.inj H
    go_enter Try.func12, Try.ntmps12
    go_wp2
    repeat (go_quiet (fail); try go_wp2)
    go_ret
    exact ⟨by first | rfl | (simp; done) | (simp [*]; done), by repeat (first | exact Drawn0.refl _ | apply Drawn0.step)⟩

/-! ### refs_Play: function 15 -/
def refs_Play.l0 : Nat → List (S42) → List (S36) → Int → Int → Option ((List (S42)) × Int)
  | 0, _, _, _, _ => none
  | k + 1, x6, x13, x14, x15 => if x15 < x14 then (if 0 ≤ x15 then (if x15 < (x13.length : Int) then ((refs_Set.f x6 ((rd_T36 x13 x15).f2) ((rd_T36 x13 x15).f3) ((rd_T36 x13 x15).f4) ((rd_T36 x13 x15).f5)).bind fun bt157 => (if bt157.2 = 0 then (refs_Play.l0 k bt157.1 x13 x14 (wrap64 (x15 + 1))) else (some (([] : List (S42)), bt157.2)))) else (none)) else (none)) else (some (x6, 0))
def refs_Play.f (k : Nat) (l0 : List (S42)) (l1 : List (S36)) : Option ((List (S42)) × Int) := (api_Ref_27.f l0).bind fun t152 => (refs_Play.l0 k t152 l1 (l1.length : Int) 0)
theorem refs_Play.mono_l : ∀ k, (∀ y0 y1 y2 y3, LeO (refs_Play.l0 k y0 y1 y2 y3) (refs_Play.l0 (k + 1) y0 y1 y2 y3))
  | 0 => fun _ _ _ _ r h => by simp [refs_Play.l0] at h
  | k + 1 => by
    have ih0 := refs_Play.mono_l k
    · intro y0 y1 y2 y3
      unfold refs_Play.l0
      repeat' first
      | (with_reducible exact ih0 _ _ _ _)
      | (with_reducible exact LeO.refl _)
      | (with_reducible exact LeO.none _)
      | (with_reducible refine LeO.ite ?_ ?_)
      | (with_reducible refine LeO.bind ?_ (fun _ => ?_))
      | exact ih0 _ _ _ _
      | exact LeO.none _
      | refine LeO.ite ?_ ?_
      | refine LeO.bind ?_ (fun _ => ?_)
theorem refs_Play.mono : ∀ a0 a1 k, LeO (refs_Play.f k a0 a1) (refs_Play.f (k + 1) a0 a1) := by
  intro a0 a1 k
  have ih0 := refs_Play.mono_l k
  unfold refs_Play.f
  repeat' first
      | (with_reducible exact ih0 _ _ _ _)
      | (with_reducible exact LeO.refl _)
      | (with_reducible exact LeO.none _)
      | (with_reducible refine LeO.ite ?_ ?_)
      | (with_reducible refine LeO.bind ?_ (fun _ => ?_))
      | exact ih0 _ _ _ _
      | exact LeO.none _
      | refine LeO.ite ?_ ?_
      | refine LeO.bind ?_ (fun _ => ?_)
set_option maxHeartbeats 8000000 in
set_option maxRecDepth 100000 in
theorem refs_Play.calls (k : Nat) (A0 : Option Addr) (c0 : Nat) (l0 : List (S42)) (A1 : Option Addr) (c1 : Nat) (l1 : List (S36)) (r1 : List (S42)) (r2 : Int) (w : World) (hr0 : Kd.C k42 w A0 l0.length l0) (hc0 : l0.length ≤ c0) (hr1 : Kd.C k36 w A1 l1.length l1) (hc1 : l1.length ≤ c1) (h : refs_Play.f k l0 l1 = some (r1, r2)) :
    Calls Try.prog 15 #[.slice A0 l0.length c0, .slice A1 l1.length c1] w fun e w' => ∃ v0_ : Value, e = .returned (.tuple #[v0_, .int .i64 r2]) ∧ Kd.R k42 42 w' w.heap.size (fun _ => True) v0_ r1 ∧ Below w.heap.size w w' := by
  have hu36 := Try.underlying36
  have HR0 := Aside0.mk hr0
  have HC0 := Aside0.mk hc0
  clear hr0 hc0
  have HR1 := Aside0.mk hr1
  have HC1 := Aside0.mk hc1
  clear hr1 hc1
  have HB := Aside0.mk (Below.refl w.heap.size w)
  have H : ((api_Ref_27.f l0).bind fun t152 => (refs_Play.l0 k t152 l1 (l1.length : Int) 0)) = some (r1, r2) := h
  clear h
  replace H := Option.bind_eq_some_iff.mp H
  obtain ⟨t152, A30, H⟩ := H
  replace H : (refs_Play.l0 k t152 l1 (l1.length : Int) 0) = some (r1, r2) := H
  have A3 := Aside0.mk A30
  clear A30
  have H' := Aside0.mk H
  clear H
  go_enter Try.func15, Try.ntmps15
  go_wp2_with (first | ((with_reducible refine gate_callee (f := 27) rfl ?_); refine M.goes (some 12) Try.func27 #[.slice A0 l0.length c0] rfl ?_; (with_reducible refine (api_Ref_27.calls _ _ l0 t152 _ ?side1 ?side2 A3.out).mono ?_); (case side1 => repeat (first | exact HR0.out | (with_reducible refine Kd.C_alloc ?_ _) | (with_reducible refine Kd.C_drewN ?_ _) | (with_reducible refine Kd.C_drew ?_))); (case side2 => exact HC0.out); rintro e w4 ⟨v153, rfl, ho0, hb⟩; refine ⟨_, rfl, ?_⟩; have n0_ := Aside0.mk (Kd.R_lower ho0 (below_size (M.up HB))); have n1_ := M.upS HB hb; clear HB; have HO154 := n0_; have HB := n1_; clear n0_ n1_; (try clear hb); (try clear ho0)))
  go_loopg [6, 15] k (fun kq v6 v15 w' => ∃ (x6_1 : List (S42)) (x15_1 : Int), v15 = .int .i64 x15_1 ∧ Aside0 (refs_Play.l0 kq x6_1 l1 (l1.length : Int) x15_1 = some (r1, r2)) ∧ Aside0 (kq ≤ k) ∧ Aside0 (Kd.R k42 42 w' w.heap.size (fun _ => True) v6 x6_1) ∧ Aside0 (Below w.heap.size w w'))
  case atStart => exact ⟨(t152), (0), (by first | rfl | (simp; done) | (simp [*]; done) | (simp [M.isEmpty_bne]; done)), H', ⟨Nat.le_refl _⟩, ⟨by (with_reducible repeat (first | apply Kd.R_alloc | apply Kd.R_drewN | apply Kd.R_drew)); exact HO154.out⟩, ⟨M.up HB⟩⟩
  case round =>
    clear H'
    try clear c1
    try clear c2
    try clear p2
    obtain ⟨x6_1, x15_1, rfl, HA, HK1, zaa, HB⟩ := hrel
    cases gk with
    | zero => exact absurd HA.out (by simp [refs_Play.l0])
    | succ k1 =>
      have H := HA.out
      clear HA
      simp only [refs_Play.l0] at H
      by_cases c5 : x15_1 < (l1.length : Int)
      · rw [if_pos c5] at H
        have c5b0 : decide (x15_1 < (l1.length : Int)) = true := decide_eq_true c5
        clear c5
        by_cases c6 : 0 ≤ x15_1
        · rw [if_pos c6] at H
          have c6b0 : decide (0 ≤ x15_1) = true := decide_eq_true c6
          clear c6
          by_cases c7 : x15_1 < (l1.length : Int)
          · rw [if_pos c7] at H
            have c7b0 : decide (x15_1 < (l1.length : Int)) = true := decide_eq_true c7
            clear c7
            replace H := Option.bind_eq_some_iff.mp H
            obtain ⟨⟨t157, t158⟩, A80, H⟩ := H
            replace H : (if t158 = 0 then (refs_Play.l0 k1 t157 l1 (l1.length : Int) (wrap64 (x15_1 + 1))) else (some (([] : List (S42)), t158))) = some (r1, r2) := H
            have A8 := Aside0.mk A80
            clear A80
            by_cases c9 : t158 = 0
            · rw [if_pos c9] at H
              have c9b0 : (t158 == 0) = true := beq_iff_eq.mpr c9
              have c9b1 : (t158 != 0) = false := bne_eq_false_iff_eq.mpr c9
              clear c9
              have H' := Aside0.mk H
              clear H
              have p155 : 0 ≤ (x15_1 : Int) := of_decide_eq_true (by first | (with_reducible assumption) | assumption)
              have q155 : x15_1 < (l1.length : Int) := of_decide_eq_true (by first | (with_reducible assumption) | assumption)
              obtain ⟨ad155, e155, hx155_0, hx155_1, hx155_2, hx155_3, hx155_4, hx155_5, hx155_6, hx155_7⟩ := at_T36 HR1.out x15_1 p155 q155
              cases e155
              replace hx155_0 := (HB.out.cell (World.block_lt_of_cell? w _ hx155_0)).trans hx155_0
              replace hx155_1 := (HB.out.cell (World.block_lt_of_cell? w _ hx155_1)).trans hx155_1
              replace hx155_2 := (HB.out.cell (World.block_lt_of_cell? w _ hx155_2)).trans hx155_2
              replace hx155_3 := (HB.out.cell (World.block_lt_of_cell? w _ hx155_3)).trans hx155_3
              replace hx155_4 := (HB.out.cell (World.block_lt_of_cell? w _ hx155_4)).trans hx155_4
              replace hx155_5 := (HB.out.cell (World.block_lt_of_cell? w _ hx155_5)).trans hx155_5
              replace hx155_6 := (HB.out.cell (World.block_lt_of_cell? w _ hx155_6)).trans hx155_6
              replace hx155_7 := (HB.out.cell (World.block_lt_of_cell? w _ hx155_7)).trans hx155_7
              replace p155 := eq_true p155
              replace q155 := eq_true q155
              go_wp2_with (first | ((with_reducible refine gate_dst (N := 8) rfl ?_); refine box_event ?hg (N := 8) ?hd (cs := #[.int .i64 0, .int .i64 0, .int .i64 0, .string (⟨#[]⟩ : ByteArray), .string (⟨#[]⟩ : ByteArray), .string (⟨#[]⟩ : ByteArray), .int .i64 0, .int .i64 0]) (t := 36) ?hr ?_; (case hd => rfl); (case hg => rfl); (case hr => first | (go_simp; done) | (go_simp; rfl)); intro zab hg w10 hbox hb; have n0_ := M.roB zaa hb; have n1_ := M.upS HB hb; have n2_ := Aside0.mk (hbox); have n3_ := M.upG HB hg; have n4_ := M.upG HB hg; clear zaa HB; have zaa := n0_; have HB := n1_; have zac := n2_; have zad := n3_; have zae := n4_; clear n0_ n1_ n2_ n3_ n4_; clear hb hbox hg; have zaf : w10.cell? ⟨zab, 0, none⟩ = some (.int .i64 0) := (blk_cell zac.out 0).trans rfl; have zag : w10.cell? ⟨zab, 1, none⟩ = some (.int .i64 0) := (blk_cell zac.out 1).trans rfl; have zah : w10.cell? ⟨zab, 2, none⟩ = some (.int .i64 0) := (blk_cell zac.out 2).trans rfl; have zai : w10.cell? ⟨zab, 3, none⟩ = some (.string (⟨#[]⟩ : ByteArray)) := (blk_cell zac.out 3).trans rfl; have zaj : w10.cell? ⟨zab, 4, none⟩ = some (.string (⟨#[]⟩ : ByteArray)) := (blk_cell zac.out 4).trans rfl; have zak : w10.cell? ⟨zab, 5, none⟩ = some (.string (⟨#[]⟩ : ByteArray)) := (blk_cell zac.out 5).trans rfl; have zal : w10.cell? ⟨zab, 6, none⟩ = some (.int .i64 0) := (blk_cell zac.out 6).trans rfl; have zam : w10.cell? ⟨zab, 7, none⟩ = some (.int .i64 0) := (blk_cell zac.out 7).trans rfl; have zan := blk_frozen zac.out 0; have zao := blk_frozen zac.out 1; have zap := blk_frozen zac.out 2; have zaq := blk_frozen zac.out 3; have zar := blk_frozen zac.out 4; have zas := blk_frozen zac.out 5; have zat := blk_frozen zac.out 6; have zau := blk_frozen zac.out 7; obtain ⟨Ao12, co12, eo12⟩ := Kd.R_slice zaa.out; subst eo12) | ((with_reducible refine gate_callee (f := 10) rfl ?_); refine M.goes (some 29) Try.func10 #[.slice Ao12 x6_1.length co12, .int .i64 ((rd_T36 l1 x15_1).f2), .string ((rd_T36 l1 x15_1).f3), .string ((rd_T36 l1 x15_1).f4), .string ((rd_T36 l1 x15_1).f5)] rfl ?_; (with_reducible refine (refs_Set.calls _ _ x6_1 ((rd_T36 l1 x15_1).f2) ((rd_T36 l1 x15_1).f3) ((rd_T36 l1 x15_1).f4) ((rd_T36 l1 x15_1).f5) t157 t158 _ ?side1 ?side2 A8.out).mono ?_); (case side1 => refine (Kd.R_reads' (e := 42) (base := w.heap.size) (ok := fun k_ => True) (n := x6_1.length) (c := co12) ?_).2.2; exact (by (with_reducible repeat (first | apply Kd.R_alloc | apply Kd.R_drewN | apply Kd.R_drew)); exact (Kd.R_mono (Kd.R_far (p := ⟨zab, 7, none⟩) (Kd.R_far (p := ⟨zab, 6, none⟩) (Kd.R_far (p := ⟨zab, 5, none⟩) (Kd.R_far (p := ⟨zab, 4, none⟩) (Kd.R_far (p := ⟨zab, 3, none⟩) (Kd.R_far (p := ⟨zab, 2, none⟩) (Kd.R_far (p := ⟨zab, 1, none⟩) (Kd.R_far (p := ⟨zab, 0, none⟩) (Kd.R_types zaa.out zac.out (by decide)) (fun _ hk => hk.2) (.int .i64 ((rd_T36 l1 x15_1).f0))) (fun _ hk => hk.2) (.int .i64 ((rd_T36 l1 x15_1).f1))) (fun _ hk => hk.2) (.int .i64 ((rd_T36 l1 x15_1).f2))) (fun _ hk => hk.2) (.string ((rd_T36 l1 x15_1).f3))) (fun _ hk => hk.2) (.string ((rd_T36 l1 x15_1).f4))) (fun _ hk => hk.2) (.string ((rd_T36 l1 x15_1).f5))) (fun _ hk => hk.2) (.int .i64 ((rd_T36 l1 x15_1).f6))) (fun _ hk => hk.2) (.int .i64 ((rd_T36 l1 x15_1).f7))) (fun _ h_ => h_.1)))); (case side2 => exact (Kd.R_reads' zaa.out).2.1); rintro e w13 ⟨v159, rfl, ho0, hb⟩; refine ⟨_, rfl, ?_⟩; have n0_ := Aside0.mk (Kd.R_elder' (by (with_reducible repeat (first | apply Kd.R_alloc | apply Kd.R_drewN | apply Kd.R_drew)); exact (Kd.R_mono (Kd.R_far (p := ⟨zab, 7, none⟩) (Kd.R_far (p := ⟨zab, 6, none⟩) (Kd.R_far (p := ⟨zab, 5, none⟩) (Kd.R_far (p := ⟨zab, 4, none⟩) (Kd.R_far (p := ⟨zab, 3, none⟩) (Kd.R_far (p := ⟨zab, 2, none⟩) (Kd.R_far (p := ⟨zab, 1, none⟩) (Kd.R_far (p := ⟨zab, 0, none⟩) (Kd.R_types zaa.out zac.out (by decide)) (fun _ hk => hk.2) (.int .i64 ((rd_T36 l1 x15_1).f0))) (fun _ hk => hk.2) (.int .i64 ((rd_T36 l1 x15_1).f1))) (fun _ hk => hk.2) (.int .i64 ((rd_T36 l1 x15_1).f2))) (fun _ hk => hk.2) (.string ((rd_T36 l1 x15_1).f3))) (fun _ hk => hk.2) (.string ((rd_T36 l1 x15_1).f4))) (fun _ hk => hk.2) (.string ((rd_T36 l1 x15_1).f5))) (fun _ hk => hk.2) (.int .i64 ((rd_T36 l1 x15_1).f6))) (fun _ hk => hk.2) (.int .i64 ((rd_T36 l1 x15_1).f7))) (fun _ h_ => h_.1))) (Kd.R_base ho0) hb); have n1_ := Aside0.mk (Kd.R_lower (Kd.R_new' ho0 (Kd.R_lt (by (with_reducible repeat (first | apply Kd.R_alloc | apply Kd.R_drewN | apply Kd.R_drew)); exact (Kd.R_mono (Kd.R_far (p := ⟨zab, 7, none⟩) (Kd.R_far (p := ⟨zab, 6, none⟩) (Kd.R_far (p := ⟨zab, 5, none⟩) (Kd.R_far (p := ⟨zab, 4, none⟩) (Kd.R_far (p := ⟨zab, 3, none⟩) (Kd.R_far (p := ⟨zab, 2, none⟩) (Kd.R_far (p := ⟨zab, 1, none⟩) (Kd.R_far (p := ⟨zab, 0, none⟩) (Kd.R_types zaa.out zac.out (by decide)) (fun _ hk => hk.2) (.int .i64 ((rd_T36 l1 x15_1).f0))) (fun _ hk => hk.2) (.int .i64 ((rd_T36 l1 x15_1).f1))) (fun _ hk => hk.2) (.int .i64 ((rd_T36 l1 x15_1).f2))) (fun _ hk => hk.2) (.string ((rd_T36 l1 x15_1).f3))) (fun _ hk => hk.2) (.string ((rd_T36 l1 x15_1).f4))) (fun _ hk => hk.2) (.string ((rd_T36 l1 x15_1).f5))) (fun _ hk => hk.2) (.int .i64 ((rd_T36 l1 x15_1).f6))) (fun _ hk => hk.2) (.int .i64 ((rd_T36 l1 x15_1).f7))) (fun _ h_ => h_.1))))) (below_size (M.up HB))); have n2_ := Aside0.mk (blk_below (g := zab) (o := .cells #[.int .i64 ((rd_T36 l1 x15_1).f0), .int .i64 ((rd_T36 l1 x15_1).f1), .int .i64 ((rd_T36 l1 x15_1).f2), .string ((rd_T36 l1 x15_1).f3), .string ((rd_T36 l1 x15_1).f4), .string ((rd_T36 l1 x15_1).f5), .int .i64 ((rd_T36 l1 x15_1).f6), .int .i64 ((rd_T36 l1 x15_1).f7)] 36 (0, 0)) (by (with_reducible repeat (first | refine blk_drewN ?_ _ | refine blk_drew ?_ | refine blk_alloc ?_ _)); refine blk_put (cs := #[.int .i64 ((rd_T36 l1 x15_1).f0), .int .i64 ((rd_T36 l1 x15_1).f1), .int .i64 ((rd_T36 l1 x15_1).f2), .string ((rd_T36 l1 x15_1).f3), .string ((rd_T36 l1 x15_1).f4), .string ((rd_T36 l1 x15_1).f5), .int .i64 ((rd_T36 l1 x15_1).f6), .int .i64 0]) ?_ 7 _ rfl; (with_reducible repeat (first | refine blk_drewN ?_ _ | refine blk_drew ?_ | refine blk_alloc ?_ _)); refine blk_put (cs := #[.int .i64 ((rd_T36 l1 x15_1).f0), .int .i64 ((rd_T36 l1 x15_1).f1), .int .i64 ((rd_T36 l1 x15_1).f2), .string ((rd_T36 l1 x15_1).f3), .string ((rd_T36 l1 x15_1).f4), .string ((rd_T36 l1 x15_1).f5), .int .i64 0, .int .i64 0]) ?_ 6 _ rfl; (with_reducible repeat (first | refine blk_drewN ?_ _ | refine blk_drew ?_ | refine blk_alloc ?_ _)); refine blk_put (cs := #[.int .i64 ((rd_T36 l1 x15_1).f0), .int .i64 ((rd_T36 l1 x15_1).f1), .int .i64 ((rd_T36 l1 x15_1).f2), .string ((rd_T36 l1 x15_1).f3), .string ((rd_T36 l1 x15_1).f4), .string (⟨#[]⟩ : ByteArray), .int .i64 0, .int .i64 0]) ?_ 5 _ rfl; (with_reducible repeat (first | refine blk_drewN ?_ _ | refine blk_drew ?_ | refine blk_alloc ?_ _)); refine blk_put (cs := #[.int .i64 ((rd_T36 l1 x15_1).f0), .int .i64 ((rd_T36 l1 x15_1).f1), .int .i64 ((rd_T36 l1 x15_1).f2), .string ((rd_T36 l1 x15_1).f3), .string (⟨#[]⟩ : ByteArray), .string (⟨#[]⟩ : ByteArray), .int .i64 0, .int .i64 0]) ?_ 4 _ rfl; (with_reducible repeat (first | refine blk_drewN ?_ _ | refine blk_drew ?_ | refine blk_alloc ?_ _)); refine blk_put (cs := #[.int .i64 ((rd_T36 l1 x15_1).f0), .int .i64 ((rd_T36 l1 x15_1).f1), .int .i64 ((rd_T36 l1 x15_1).f2), .string (⟨#[]⟩ : ByteArray), .string (⟨#[]⟩ : ByteArray), .string (⟨#[]⟩ : ByteArray), .int .i64 0, .int .i64 0]) ?_ 3 _ rfl; (with_reducible repeat (first | refine blk_drewN ?_ _ | refine blk_drew ?_ | refine blk_alloc ?_ _)); refine blk_put (cs := #[.int .i64 ((rd_T36 l1 x15_1).f0), .int .i64 ((rd_T36 l1 x15_1).f1), .int .i64 0, .string (⟨#[]⟩ : ByteArray), .string (⟨#[]⟩ : ByteArray), .string (⟨#[]⟩ : ByteArray), .int .i64 0, .int .i64 0]) ?_ 2 _ rfl; (with_reducible repeat (first | refine blk_drewN ?_ _ | refine blk_drew ?_ | refine blk_alloc ?_ _)); refine blk_put (cs := #[.int .i64 ((rd_T36 l1 x15_1).f0), .int .i64 0, .int .i64 0, .string (⟨#[]⟩ : ByteArray), .string (⟨#[]⟩ : ByteArray), .string (⟨#[]⟩ : ByteArray), .int .i64 0, .int .i64 0]) ?_ 1 _ rfl; (with_reducible repeat (first | refine blk_drewN ?_ _ | refine blk_drew ?_ | refine blk_alloc ?_ _)); refine blk_put (cs := #[.int .i64 0, .int .i64 0, .int .i64 0, .string (⟨#[]⟩ : ByteArray), .string (⟨#[]⟩ : ByteArray), .string (⟨#[]⟩ : ByteArray), .int .i64 0, .int .i64 0]) ?_ 0 _ rfl; (with_reducible repeat (first | refine blk_drewN ?_ _ | refine blk_drew ?_ | refine blk_alloc ?_ _)); exact zac.out) hb); have n3_ := M.upS HB hb; clear zaa zac HB; have zaa := n0_; have HO160 := n1_; have zac := n2_; have HB := n3_; clear n0_ n1_ n2_ n3_; (try clear hb); (try clear ho0)))
              go_roundg k1
              case measure => have := HK1.out; omega
              case rel => exact ⟨(t157), (wrap64 (x15_1 + 1)), (by first | rfl | (simp; done) | (simp [*]; done) | (simp [M.isEmpty_bne]; done)), H', ⟨by have := HK1.out; omega⟩, ⟨by (with_reducible repeat (first | apply Kd.R_alloc | apply Kd.R_drewN | apply Kd.R_drew)); exact Kd.R_mono HO160.out (fun _ hk => trivial)⟩, ⟨M.up HB⟩⟩
            · rw [if_neg c9] at H
              have c9b0 : (t158 == 0) = false := beq_eq_false_iff_ne.mpr c9
              have c9b1 : (t158 != 0) = true := bne_iff_ne.mpr c9
              simp only [Option.some.injEq, Prod.mk.injEq] at H
              obtain ⟨rfl, rfl⟩ := H
              have p155 : 0 ≤ (x15_1 : Int) := of_decide_eq_true (by first | (with_reducible assumption) | assumption)
              have q155 : x15_1 < (l1.length : Int) := of_decide_eq_true (by first | (with_reducible assumption) | assumption)
              obtain ⟨ad155, e155, hx155_0, hx155_1, hx155_2, hx155_3, hx155_4, hx155_5, hx155_6, hx155_7⟩ := at_T36 HR1.out x15_1 p155 q155
              cases e155
              replace hx155_0 := (HB.out.cell (World.block_lt_of_cell? w _ hx155_0)).trans hx155_0
              replace hx155_1 := (HB.out.cell (World.block_lt_of_cell? w _ hx155_1)).trans hx155_1
              replace hx155_2 := (HB.out.cell (World.block_lt_of_cell? w _ hx155_2)).trans hx155_2
              replace hx155_3 := (HB.out.cell (World.block_lt_of_cell? w _ hx155_3)).trans hx155_3
              replace hx155_4 := (HB.out.cell (World.block_lt_of_cell? w _ hx155_4)).trans hx155_4
              replace hx155_5 := (HB.out.cell (World.block_lt_of_cell? w _ hx155_5)).trans hx155_5
              replace hx155_6 := (HB.out.cell (World.block_lt_of_cell? w _ hx155_6)).trans hx155_6
              replace hx155_7 := (HB.out.cell (World.block_lt_of_cell? w _ hx155_7)).trans hx155_7
              replace p155 := eq_true p155
              replace q155 := eq_true q155
              go_wp2_with (first | ((with_reducible refine gate_dst (N := 8) rfl ?_); refine box_event ?hg (N := 8) ?hd (cs := #[.int .i64 0, .int .i64 0, .int .i64 0, .string (⟨#[]⟩ : ByteArray), .string (⟨#[]⟩ : ByteArray), .string (⟨#[]⟩ : ByteArray), .int .i64 0, .int .i64 0]) (t := 36) ?hr ?_; (case hd => rfl); (case hg => rfl); (case hr => first | (go_simp; done) | (go_simp; rfl)); intro zab hg w14 hbox hb; have n0_ := M.roB zaa hb; have n1_ := M.upS HB hb; have n2_ := Aside0.mk (hbox); have n3_ := M.upG HB hg; have n4_ := M.upG HB hg; clear zaa HB; have zaa := n0_; have HB := n1_; have zac := n2_; have zad := n3_; have zae := n4_; clear n0_ n1_ n2_ n3_ n4_; clear hb hbox hg; have zav : w14.cell? ⟨zab, 0, none⟩ = some (.int .i64 0) := (blk_cell zac.out 0).trans rfl; have zaw : w14.cell? ⟨zab, 1, none⟩ = some (.int .i64 0) := (blk_cell zac.out 1).trans rfl; have zax : w14.cell? ⟨zab, 2, none⟩ = some (.int .i64 0) := (blk_cell zac.out 2).trans rfl; have zay : w14.cell? ⟨zab, 3, none⟩ = some (.string (⟨#[]⟩ : ByteArray)) := (blk_cell zac.out 3).trans rfl; have zaz : w14.cell? ⟨zab, 4, none⟩ = some (.string (⟨#[]⟩ : ByteArray)) := (blk_cell zac.out 4).trans rfl; have zaA : w14.cell? ⟨zab, 5, none⟩ = some (.string (⟨#[]⟩ : ByteArray)) := (blk_cell zac.out 5).trans rfl; have zaB : w14.cell? ⟨zab, 6, none⟩ = some (.int .i64 0) := (blk_cell zac.out 6).trans rfl; have zaC : w14.cell? ⟨zab, 7, none⟩ = some (.int .i64 0) := (blk_cell zac.out 7).trans rfl; have zaD := blk_frozen zac.out 0; have zaE := blk_frozen zac.out 1; have zaF := blk_frozen zac.out 2; have zaG := blk_frozen zac.out 3; have zaH := blk_frozen zac.out 4; have zaI := blk_frozen zac.out 5; have zaJ := blk_frozen zac.out 6; have zaK := blk_frozen zac.out 7; obtain ⟨Ao16, co16, eo16⟩ := Kd.R_slice zaa.out; subst eo16) | ((with_reducible refine gate_callee (f := 10) rfl ?_); refine M.goes (some 29) Try.func10 #[.slice Ao16 x6_1.length co16, .int .i64 ((rd_T36 l1 x15_1).f2), .string ((rd_T36 l1 x15_1).f3), .string ((rd_T36 l1 x15_1).f4), .string ((rd_T36 l1 x15_1).f5)] rfl ?_; (with_reducible refine (refs_Set.calls _ _ x6_1 ((rd_T36 l1 x15_1).f2) ((rd_T36 l1 x15_1).f3) ((rd_T36 l1 x15_1).f4) ((rd_T36 l1 x15_1).f5) t157 t158 _ ?side1 ?side2 A8.out).mono ?_); (case side1 => refine (Kd.R_reads' (e := 42) (base := w.heap.size) (ok := fun k_ => True) (n := x6_1.length) (c := co16) ?_).2.2; exact (by (with_reducible repeat (first | apply Kd.R_alloc | apply Kd.R_drewN | apply Kd.R_drew)); exact (Kd.R_mono (Kd.R_far (p := ⟨zab, 7, none⟩) (Kd.R_far (p := ⟨zab, 6, none⟩) (Kd.R_far (p := ⟨zab, 5, none⟩) (Kd.R_far (p := ⟨zab, 4, none⟩) (Kd.R_far (p := ⟨zab, 3, none⟩) (Kd.R_far (p := ⟨zab, 2, none⟩) (Kd.R_far (p := ⟨zab, 1, none⟩) (Kd.R_far (p := ⟨zab, 0, none⟩) (Kd.R_types zaa.out zac.out (by decide)) (fun _ hk => hk.2) (.int .i64 ((rd_T36 l1 x15_1).f0))) (fun _ hk => hk.2) (.int .i64 ((rd_T36 l1 x15_1).f1))) (fun _ hk => hk.2) (.int .i64 ((rd_T36 l1 x15_1).f2))) (fun _ hk => hk.2) (.string ((rd_T36 l1 x15_1).f3))) (fun _ hk => hk.2) (.string ((rd_T36 l1 x15_1).f4))) (fun _ hk => hk.2) (.string ((rd_T36 l1 x15_1).f5))) (fun _ hk => hk.2) (.int .i64 ((rd_T36 l1 x15_1).f6))) (fun _ hk => hk.2) (.int .i64 ((rd_T36 l1 x15_1).f7))) (fun _ h_ => h_.1)))); (case side2 => exact (Kd.R_reads' zaa.out).2.1); rintro e w17 ⟨v159, rfl, ho0, hb⟩; refine ⟨_, rfl, ?_⟩; have n0_ := Aside0.mk (Kd.R_elder' (by (with_reducible repeat (first | apply Kd.R_alloc | apply Kd.R_drewN | apply Kd.R_drew)); exact (Kd.R_mono (Kd.R_far (p := ⟨zab, 7, none⟩) (Kd.R_far (p := ⟨zab, 6, none⟩) (Kd.R_far (p := ⟨zab, 5, none⟩) (Kd.R_far (p := ⟨zab, 4, none⟩) (Kd.R_far (p := ⟨zab, 3, none⟩) (Kd.R_far (p := ⟨zab, 2, none⟩) (Kd.R_far (p := ⟨zab, 1, none⟩) (Kd.R_far (p := ⟨zab, 0, none⟩) (Kd.R_types zaa.out zac.out (by decide)) (fun _ hk => hk.2) (.int .i64 ((rd_T36 l1 x15_1).f0))) (fun _ hk => hk.2) (.int .i64 ((rd_T36 l1 x15_1).f1))) (fun _ hk => hk.2) (.int .i64 ((rd_T36 l1 x15_1).f2))) (fun _ hk => hk.2) (.string ((rd_T36 l1 x15_1).f3))) (fun _ hk => hk.2) (.string ((rd_T36 l1 x15_1).f4))) (fun _ hk => hk.2) (.string ((rd_T36 l1 x15_1).f5))) (fun _ hk => hk.2) (.int .i64 ((rd_T36 l1 x15_1).f6))) (fun _ hk => hk.2) (.int .i64 ((rd_T36 l1 x15_1).f7))) (fun _ h_ => h_.1))) (Kd.R_base ho0) hb); have n1_ := Aside0.mk (Kd.R_lower (Kd.R_new' ho0 (Kd.R_lt (by (with_reducible repeat (first | apply Kd.R_alloc | apply Kd.R_drewN | apply Kd.R_drew)); exact (Kd.R_mono (Kd.R_far (p := ⟨zab, 7, none⟩) (Kd.R_far (p := ⟨zab, 6, none⟩) (Kd.R_far (p := ⟨zab, 5, none⟩) (Kd.R_far (p := ⟨zab, 4, none⟩) (Kd.R_far (p := ⟨zab, 3, none⟩) (Kd.R_far (p := ⟨zab, 2, none⟩) (Kd.R_far (p := ⟨zab, 1, none⟩) (Kd.R_far (p := ⟨zab, 0, none⟩) (Kd.R_types zaa.out zac.out (by decide)) (fun _ hk => hk.2) (.int .i64 ((rd_T36 l1 x15_1).f0))) (fun _ hk => hk.2) (.int .i64 ((rd_T36 l1 x15_1).f1))) (fun _ hk => hk.2) (.int .i64 ((rd_T36 l1 x15_1).f2))) (fun _ hk => hk.2) (.string ((rd_T36 l1 x15_1).f3))) (fun _ hk => hk.2) (.string ((rd_T36 l1 x15_1).f4))) (fun _ hk => hk.2) (.string ((rd_T36 l1 x15_1).f5))) (fun _ hk => hk.2) (.int .i64 ((rd_T36 l1 x15_1).f6))) (fun _ hk => hk.2) (.int .i64 ((rd_T36 l1 x15_1).f7))) (fun _ h_ => h_.1))))) (below_size (M.up HB))); have n2_ := Aside0.mk (blk_below (g := zab) (o := .cells #[.int .i64 ((rd_T36 l1 x15_1).f0), .int .i64 ((rd_T36 l1 x15_1).f1), .int .i64 ((rd_T36 l1 x15_1).f2), .string ((rd_T36 l1 x15_1).f3), .string ((rd_T36 l1 x15_1).f4), .string ((rd_T36 l1 x15_1).f5), .int .i64 ((rd_T36 l1 x15_1).f6), .int .i64 ((rd_T36 l1 x15_1).f7)] 36 (0, 0)) (by (with_reducible repeat (first | refine blk_drewN ?_ _ | refine blk_drew ?_ | refine blk_alloc ?_ _)); refine blk_put (cs := #[.int .i64 ((rd_T36 l1 x15_1).f0), .int .i64 ((rd_T36 l1 x15_1).f1), .int .i64 ((rd_T36 l1 x15_1).f2), .string ((rd_T36 l1 x15_1).f3), .string ((rd_T36 l1 x15_1).f4), .string ((rd_T36 l1 x15_1).f5), .int .i64 ((rd_T36 l1 x15_1).f6), .int .i64 0]) ?_ 7 _ rfl; (with_reducible repeat (first | refine blk_drewN ?_ _ | refine blk_drew ?_ | refine blk_alloc ?_ _)); refine blk_put (cs := #[.int .i64 ((rd_T36 l1 x15_1).f0), .int .i64 ((rd_T36 l1 x15_1).f1), .int .i64 ((rd_T36 l1 x15_1).f2), .string ((rd_T36 l1 x15_1).f3), .string ((rd_T36 l1 x15_1).f4), .string ((rd_T36 l1 x15_1).f5), .int .i64 0, .int .i64 0]) ?_ 6 _ rfl; (with_reducible repeat (first | refine blk_drewN ?_ _ | refine blk_drew ?_ | refine blk_alloc ?_ _)); refine blk_put (cs := #[.int .i64 ((rd_T36 l1 x15_1).f0), .int .i64 ((rd_T36 l1 x15_1).f1), .int .i64 ((rd_T36 l1 x15_1).f2), .string ((rd_T36 l1 x15_1).f3), .string ((rd_T36 l1 x15_1).f4), .string (⟨#[]⟩ : ByteArray), .int .i64 0, .int .i64 0]) ?_ 5 _ rfl; (with_reducible repeat (first | refine blk_drewN ?_ _ | refine blk_drew ?_ | refine blk_alloc ?_ _)); refine blk_put (cs := #[.int .i64 ((rd_T36 l1 x15_1).f0), .int .i64 ((rd_T36 l1 x15_1).f1), .int .i64 ((rd_T36 l1 x15_1).f2), .string ((rd_T36 l1 x15_1).f3), .string (⟨#[]⟩ : ByteArray), .string (⟨#[]⟩ : ByteArray), .int .i64 0, .int .i64 0]) ?_ 4 _ rfl; (with_reducible repeat (first | refine blk_drewN ?_ _ | refine blk_drew ?_ | refine blk_alloc ?_ _)); refine blk_put (cs := #[.int .i64 ((rd_T36 l1 x15_1).f0), .int .i64 ((rd_T36 l1 x15_1).f1), .int .i64 ((rd_T36 l1 x15_1).f2), .string (⟨#[]⟩ : ByteArray), .string (⟨#[]⟩ : ByteArray), .string (⟨#[]⟩ : ByteArray), .int .i64 0, .int .i64 0]) ?_ 3 _ rfl; (with_reducible repeat (first | refine blk_drewN ?_ _ | refine blk_drew ?_ | refine blk_alloc ?_ _)); refine blk_put (cs := #[.int .i64 ((rd_T36 l1 x15_1).f0), .int .i64 ((rd_T36 l1 x15_1).f1), .int .i64 0, .string (⟨#[]⟩ : ByteArray), .string (⟨#[]⟩ : ByteArray), .string (⟨#[]⟩ : ByteArray), .int .i64 0, .int .i64 0]) ?_ 2 _ rfl; (with_reducible repeat (first | refine blk_drewN ?_ _ | refine blk_drew ?_ | refine blk_alloc ?_ _)); refine blk_put (cs := #[.int .i64 ((rd_T36 l1 x15_1).f0), .int .i64 0, .int .i64 0, .string (⟨#[]⟩ : ByteArray), .string (⟨#[]⟩ : ByteArray), .string (⟨#[]⟩ : ByteArray), .int .i64 0, .int .i64 0]) ?_ 1 _ rfl; (with_reducible repeat (first | refine blk_drewN ?_ _ | refine blk_drew ?_ | refine blk_alloc ?_ _)); refine blk_put (cs := #[.int .i64 0, .int .i64 0, .int .i64 0, .string (⟨#[]⟩ : ByteArray), .string (⟨#[]⟩ : ByteArray), .string (⟨#[]⟩ : ByteArray), .int .i64 0, .int .i64 0]) ?_ 0 _ rfl; (with_reducible repeat (first | refine blk_drewN ?_ _ | refine blk_drew ?_ | refine blk_alloc ?_ _)); exact zac.out) hb); have n3_ := M.upS HB hb; clear zaa zac HB; have zaa := n0_; have HO160 := n1_; have zac := n2_; have HB := n3_; clear n0_ n1_ n2_ n3_; (try clear hb); (try clear ho0)))
              go_ret2
              exact ⟨_, by first | rfl | (simp [errW_none, errW_some] <;> rfl) | (simp [*, errW_none, errW_some] <;> rfl), by first | exact Kd.R_nil _ _ _ _ _ | exact Kd.N_nil _ _ _ _ _ | exact Kd.V_nil _ _ _ _ _ | exact Kd.Q_nil _ _ _ _ _ | exact Kd.S_nil _ _ _ _ _, M.up HB⟩
          · rw [if_neg c7] at H
            exact absurd H (by simp)
        · rw [if_neg c6] at H
          exact absurd H (by simp)
      · rw [if_neg c5] at H
        have c5b0 : decide (x15_1 < (l1.length : Int)) = false := decide_eq_false c5
        clear c5
        simp only [Option.some.injEq, Prod.mk.injEq] at H
        obtain ⟨rfl, rfl⟩ := H
        go_wp2
        go_ret2
        exact ⟨_, by first | rfl | (simp [errW_none, errW_some] <;> rfl) | (simp [*, errW_none, errW_some] <;> rfl), by (with_reducible repeat (first | apply Kd.R_alloc | apply Kd.R_drewN | apply Kd.R_drew)); exact zaa.out, M.up HB⟩

/-! ### refs_Records: function 20 -/
def refs_Records.l0 : Nat → Int → Int → Int → List (S36) → List (S42) → Int → Int → Option ((List (S36)))
  | 0, _, _, _, _, _, _, _ => none
  | k + 1, x0, x1, x2, x9, x12, x13, x14 => if x14 < x13 then (if 0 ≤ x14 then (if x14 < (x12.length : Int) then (if x9.length < 1599289640401 then (refs_Records.l0 k x0 x1 x2 (x9 ++ [(⟨x0, x14, (rd_T42 x12 x14).f0, (rd_T42 x12 x14).f1, (⟨#[]⟩ : ByteArray), (rd_T42 x12 x14).f2, x1, x2⟩ : S36)]) x12 x13 (wrap64 (x14 + 1))) else (none)) else (none)) else (none)) else (some x9)
def refs_Records.f (k : Nat) (a0 : Int) (a1 : Int) (a2 : Int) (l3 : List (S42)) : Option ((List (S36))) := refs_Records.l0 k a0 a1 a2 ([] : List (S36)) l3 (l3.length : Int) 0
theorem refs_Records.mono_l : ∀ k, (∀ y0 y1 y2 y3 y4 y5 y6, LeO (refs_Records.l0 k y0 y1 y2 y3 y4 y5 y6) (refs_Records.l0 (k + 1) y0 y1 y2 y3 y4 y5 y6))
  | 0 => fun _ _ _ _ _ _ _ r h => by simp [refs_Records.l0] at h
  | k + 1 => by
    have ih0 := refs_Records.mono_l k
    · intro y0 y1 y2 y3 y4 y5 y6
      unfold refs_Records.l0
      repeat' first
      | (with_reducible exact ih0 _ _ _ _ _ _ _)
      | (with_reducible exact LeO.refl _)
      | (with_reducible exact LeO.none _)
      | (with_reducible refine LeO.ite ?_ ?_)
      | (with_reducible refine LeO.bind ?_ (fun _ => ?_))
      | exact ih0 _ _ _ _ _ _ _
      | exact LeO.none _
      | refine LeO.ite ?_ ?_
      | refine LeO.bind ?_ (fun _ => ?_)
theorem refs_Records.mono : ∀ a0 a1 a2 a3 k, LeO (refs_Records.f k a0 a1 a2 a3) (refs_Records.f (k + 1) a0 a1 a2 a3) := by
  intro a0 a1 a2 a3 k
  have ih0 := refs_Records.mono_l k
  unfold refs_Records.f
  repeat' first
      | (with_reducible exact ih0 _ _ _ _ _ _ _)
      | (with_reducible exact LeO.refl _)
      | (with_reducible exact LeO.none _)
      | (with_reducible refine LeO.ite ?_ ?_)
      | (with_reducible refine LeO.bind ?_ (fun _ => ?_))
      | exact ih0 _ _ _ _ _ _ _
      | exact LeO.none _
      | refine LeO.ite ?_ ?_
      | refine LeO.bind ?_ (fun _ => ?_)
set_option maxHeartbeats 8000000 in
set_option maxRecDepth 100000 in
theorem refs_Records.calls (k : Nat) (a0 : Int) (a1 : Int) (a2 : Int) (A3 : Option Addr) (c3 : Nat) (l3 : List (S42)) (r : List (S36)) (w : World) (hr3 : Kd.C k42 w A3 l3.length l3) (hc3 : l3.length ≤ c3) (h : refs_Records.f k a0 a1 a2 l3 = some r) :
    Calls Try.prog 20 #[.int .i64 a0, .int .i64 a1, .int .i64 a2, .slice A3 l3.length c3] w fun e w' => ∃ v0_ : Value, e = .returned (v0_) ∧ Kd.R k36 36 w' w.heap.size (fun _ => True) v0_ r ∧ Below w.heap.size w w' := by
  have hu42 := Try.underlying42
  have hu36 := Try.underlying36
  have HR3 := Aside0.mk hr3
  have HC3 := Aside0.mk hc3
  clear hr3 hc3
  have HB := Aside0.mk (Below.refl w.heap.size w)
  have H : (refs_Records.l0 k a0 a1 a2 ([] : List (S36)) l3 (l3.length : Int) 0) = some r := h
  clear h
  have H' := Aside0.mk H
  clear H
  go_enter Try.func20, Try.ntmps20
  go_wp2
  go_loopg [9, 14] k (fun kq v9 v14 w' => ∃ (x9_1 : List (S36)) (x14_1 : Int), v14 = .int .i64 x14_1 ∧ Aside0 (refs_Records.l0 kq a0 a1 a2 x9_1 l3 (l3.length : Int) x14_1 = some r) ∧ Aside0 (kq ≤ k) ∧ Aside0 (Kd.R k36 36 w' w.heap.size (fun _ => True) v9 x9_1) ∧ Aside0 (Below w.heap.size w w'))
  case atStart => exact ⟨(([] : List (S36))), (0), (by first | rfl | (simp; done) | (simp [*]; done) | (simp [M.isEmpty_bne]; done)), H', ⟨Nat.le_refl _⟩, ⟨by first | exact Kd.R_nil _ _ _ _ _ | exact Kd.N_nil _ _ _ _ _ | exact Kd.V_nil _ _ _ _ _ | exact Kd.Q_nil _ _ _ _ _ | exact Kd.S_nil _ _ _ _ _⟩, ⟨M.up HB⟩⟩
  case round =>
    clear H'
    try clear c2
    try clear p2
    try clear c3
    obtain ⟨x9_1, x14_1, rfl, HA, HK1, zaL, HB⟩ := hrel
    cases gk with
    | zero => exact absurd HA.out (by simp [refs_Records.l0])
    | succ k1 =>
      have H := HA.out
      clear HA
      simp only [refs_Records.l0] at H
      by_cases c5 : x14_1 < (l3.length : Int)
      · rw [if_pos c5] at H
        have c5b0 : decide (x14_1 < (l3.length : Int)) = true := decide_eq_true c5
        clear c5
        by_cases c6 : 0 ≤ x14_1
        · rw [if_pos c6] at H
          have c6b0 : decide (0 ≤ x14_1) = true := decide_eq_true c6
          clear c6
          by_cases c7 : x14_1 < (l3.length : Int)
          · rw [if_pos c7] at H
            have c7b0 : decide (x14_1 < (l3.length : Int)) = true := decide_eq_true c7
            clear c7
            by_cases c8 : x9_1.length < 1599289640401
            · rw [if_pos c8] at H
              have LMc8 := Aside0.mk c8
              clear c8
              obtain ⟨y163, hy163⟩ : ∃ y_ : List (S36), y_ = (x9_1 ++ [(⟨a0, x14_1, (rd_T42 l3 x14_1).f0, (rd_T42 l3 x14_1).f1, (⟨#[]⟩ : ByteArray), (rd_T42 l3 x14_1).f2, a1, a2⟩ : S36)]) := ⟨_, rfl⟩
              replace H : (refs_Records.l0 k1 a0 a1 a2 y163 l3 (l3.length : Int) (wrap64 (x14_1 + 1))) = some r := by first | (rw [hy163]; with_reducible exact H) | (have H2_ := (Option.bind_some _ _).symm.trans H; rw [hy163]; with_reducible exact H2_) | (have H2_ := (Option.bind_some _ _).symm.trans H; with_reducible exact H2_) | with_reducible exact H | (rw [hy163]; exact H) | exact H
              have Ny163 := Aside0.mk hy163
              clear hy163
              have H' := Aside0.mk H
              clear H
              have p161 : 0 ≤ (x14_1 : Int) := of_decide_eq_true (by first | (with_reducible assumption) | assumption)
              have q161 : x14_1 < (l3.length : Int) := of_decide_eq_true (by first | (with_reducible assumption) | assumption)
              obtain ⟨ad161, e161, hx161_0, hx161_1, hx161_2⟩ := at_T42 HR3.out x14_1 p161 q161
              cases e161
              replace hx161_0 := (HB.out.cell (World.block_lt_of_cell? w _ hx161_0)).trans hx161_0
              replace hx161_1 := (HB.out.cell (World.block_lt_of_cell? w _ hx161_1)).trans hx161_1
              replace hx161_2 := (HB.out.cell (World.block_lt_of_cell? w _ hx161_2)).trans hx161_2
              replace p161 := eq_true p161
              replace q161 := eq_true q161
              go_wp2_with (first | ((with_reducible refine gate_dst (N := 11) rfl ?_); refine box_event ?hg (N := 11) ?hd (cs := #[.int .i64 0, .string (⟨#[]⟩ : ByteArray), .string (⟨#[]⟩ : ByteArray)]) (t := 42) ?hr ?_; (case hd => rfl); (case hg => rfl); (case hr => first | (go_simp; done) | (go_simp; rfl)); intro zaM hg w9 hbox hb; have n0_ := M.roB zaL hb; have n1_ := M.upS HB hb; have n2_ := Aside0.mk (hbox); have n3_ := M.upG HB hg; have n4_ := M.upG HB hg; clear zaL HB; have zaL := n0_; have HB := n1_; have zaN := n2_; have zaO := n3_; have zaP := n4_; clear n0_ n1_ n2_ n3_ n4_; clear hb hbox hg; obtain ⟨zaQ, zaR, zaS⟩ := M.bc3 (w := w9) (a := .int .i64 0) (b := .string (⟨#[]⟩ : ByteArray)) (c := .string (⟨#[]⟩ : ByteArray)) zaN.out; obtain ⟨zaT, zaU, zaV⟩ := M.bf3 zaN) | ((with_reducible refine gate_builtin (b := .append) (xs := #[.tmp 19, .tmp 31]) rfl ?_); at_builtin; refine Kd.R_append k36 (w0 := w) w.heap.size rfl (.tmp 19) (.tmp 31) 34 36 (.agg #[(.int .i64 0), (.int .i64 0), (.int .i64 0), (.string ⟨#[]⟩), (.string ⟨#[]⟩), (.string ⟨#[]⟩), (.int .i64 0), (.int .i64 0)]) 88 rfl Try.underlying34 info36 rfl (by decide) (by omega) u9 x9_1 (⟨a0, x14_1, (rd_T42 l3 x14_1).f0, (rd_T42 l3 x14_1).f1, (⟨#[]⟩ : ByteArray), (rd_T42 l3 x14_1).f2, a1, a2⟩ : S36) [.int .i64 a0, .int .i64 x14_1, .int .i64 ((rd_T42 l3 x14_1).f0), .string ((rd_T42 l3 x14_1).f1), .string (⟨#[]⟩ : ByteArray), .string ((rd_T42 l3 x14_1).f2), .int .i64 a1, .int .i64 a2] (fun _ => True) (fun _ => False) rfl (by first | (go_simp; done) | (go_simp; rfl)) ?aP (fun _ hk => hk.elim) ?aF ?aO ?aB ?aS ?aL ?_; (case aP => exact k36_mkM _ _ _ (⟨a0, x14_1, (rd_T42 l3 x14_1).f0, (rd_T42 l3 x14_1).f1, (⟨#[]⟩ : ByteArray), (rd_T42 l3 x14_1).f2, a1, a2⟩ : S36)); (case aB => exact (M.up HB)); (case aF => exact (fun _ _ => trivial)); (case aO => exact (by (with_reducible repeat (first | apply Kd.R_alloc | apply Kd.R_drewN | apply Kd.R_drew)); exact Kd.R_mono (Kd.R_far (p := ⟨zaM, 2, none⟩) (Kd.R_far (p := ⟨zaM, 1, none⟩) (Kd.R_far (p := ⟨zaM, 0, none⟩) (Kd.R_types zaL.out zaN.out (by decide)) (fun _ hk => hk.2) (.int .i64 ((rd_T42 l3 x14_1).f0))) (fun _ hk => hk.2) (.string ((rd_T42 l3 x14_1).f1))) (fun _ hk => hk.2) (.string ((rd_T42 l3 x14_1).f2))) (fun _ hk => trivial))); (case aS => exact (below_size (M.up HB))); (case aL => have := LMc8.out; omega); intro v164 w11 ho hb hg hat; rw [← Ny163.out] at ho; have n0_ := Aside0.mk (blk_grown (g := zaM) (o := .cells #[.int .i64 ((rd_T42 l3 x14_1).f0), .string ((rd_T42 l3 x14_1).f1), .string ((rd_T42 l3 x14_1).f2)] 42 (0, 0)) (by (with_reducible repeat (first | refine blk_drewN ?_ _ | refine blk_drew ?_ | refine blk_alloc ?_ _)); refine blk_put (cs := #[.int .i64 ((rd_T42 l3 x14_1).f0), .string ((rd_T42 l3 x14_1).f1), .string (⟨#[]⟩ : ByteArray)]) ?_ 2 _ rfl; (with_reducible repeat (first | refine blk_drewN ?_ _ | refine blk_drew ?_ | refine blk_alloc ?_ _)); refine blk_put (cs := #[.int .i64 ((rd_T42 l3 x14_1).f0), .string (⟨#[]⟩ : ByteArray), .string (⟨#[]⟩ : ByteArray)]) ?_ 1 _ rfl; (with_reducible repeat (first | refine blk_drewN ?_ _ | refine blk_drew ?_ | refine blk_alloc ?_ _)); refine blk_put (cs := #[.int .i64 0, .string (⟨#[]⟩ : ByteArray), .string (⟨#[]⟩ : ByteArray)]) ?_ 0 _ rfl; (with_reducible repeat (first | refine blk_drewN ?_ _ | refine blk_drew ?_ | refine blk_alloc ?_ _)); exact zaN.out) hg (Kd.R_ne zaL.out zaN.out (by decide))); have n1_ := Aside0.mk (hb); have n2_ := Aside0.mk (ho); clear zaN HB zaL; have zaN := n0_; have HB := n1_; have HO165 := n2_; clear n0_ n1_ n2_; clear ho hb hg hat))
              go_roundg k1
              case measure => have := HK1.out; omega
              case rel => exact ⟨(y163), (wrap64 (x14_1 + 1)), (by first | rfl | (simp; done) | (simp [*]; done) | (simp [M.isEmpty_bne]; done)), H', ⟨by have := HK1.out; omega⟩, ⟨by (with_reducible repeat (first | apply Kd.R_alloc | apply Kd.R_drewN | apply Kd.R_drew)); exact HO165.out⟩, ⟨M.up HB⟩⟩
            · rw [if_neg c8] at H
              exact absurd H (by simp)
          · rw [if_neg c7] at H
            exact absurd H (by simp)
        · rw [if_neg c6] at H
          exact absurd H (by simp)
      · rw [if_neg c5] at H
        have c5b0 : decide (x14_1 < (l3.length : Int)) = false := decide_eq_false c5
        clear c5
        obtain rfl := Option.some.inj H
        go_wp2
        go_ret
        exact ⟨_, by first | rfl | (simp [errW_none, errW_some] <;> rfl) | (simp [*, errW_none, errW_some] <;> rfl), by (with_reducible repeat (first | apply Kd.R_alloc | apply Kd.R_drewN | apply Kd.R_drew)); exact zaL.out, M.up HB⟩

/-! ### pleachref05_In_p: function 33 -/
def pleachref05_In_p.l0 : Nat → List ByteArray → ByteArray → Int → Option (Bool)
  | 0, _, _, _ => none
  | k + 1, x0, x1, x5 => if x5 < (x0.length : Int) then (if 0 ≤ x5 then (if (rdOf ByteArray.empty x0 x5).toList = x1.toList then (some true) else (pleachref05_In_p.l0 k x0 x1 (wrap64 (x5 + 1)))) else (none)) else (some false)
def pleachref05_In_p.f (k : Nat) (l0 : List ByteArray) (a1 : ByteArray) : Option (Bool) := pleachref05_In_p.l0 k l0 a1 0
theorem pleachref05_In_p.mono_l : ∀ k, (∀ y0 y1 y2, LeO (pleachref05_In_p.l0 k y0 y1 y2) (pleachref05_In_p.l0 (k + 1) y0 y1 y2))
  | 0 => fun _ _ _ r h => by simp [pleachref05_In_p.l0] at h
  | k + 1 => by
    have ih0 := pleachref05_In_p.mono_l k
    · intro y0 y1 y2
      unfold pleachref05_In_p.l0
      repeat' first
      | (with_reducible exact ih0 _ _ _)
      | (with_reducible exact LeO.refl _)
      | (with_reducible exact LeO.none _)
      | (with_reducible refine LeO.ite ?_ ?_)
      | (with_reducible refine LeO.bind ?_ (fun _ => ?_))
      | exact ih0 _ _ _
      | exact LeO.none _
      | refine LeO.ite ?_ ?_
      | refine LeO.bind ?_ (fun _ => ?_)
theorem pleachref05_In_p.mono : ∀ a0 a1 k, LeO (pleachref05_In_p.f k a0 a1) (pleachref05_In_p.f (k + 1) a0 a1) := by
  intro a0 a1 k
  have ih0 := pleachref05_In_p.mono_l k
  unfold pleachref05_In_p.f
  repeat' first
      | (with_reducible exact ih0 _ _ _)
      | (with_reducible exact LeO.refl _)
      | (with_reducible exact LeO.none _)
      | (with_reducible refine LeO.ite ?_ ?_)
      | (with_reducible refine LeO.bind ?_ (fun _ => ?_))
      | exact ih0 _ _ _
      | exact LeO.none _
      | refine LeO.ite ?_ ?_
      | refine LeO.bind ?_ (fun _ => ?_)
set_option maxHeartbeats 8000000 in
set_option maxRecDepth 100000 in
theorem pleachref05_In_p.calls (k : Nat) (A0 : Option Addr) (c0 : Nat) (l0 : List ByteArray) (a1 : ByteArray) (r : Bool) (w : World) (hr0 : Kd.C Kd.string w A0 l0.length l0) (hc0 : l0.length ≤ c0) (h : pleachref05_In_p.f k l0 a1 = some r) :
    Calls Try.prog 33 #[.slice A0 l0.length c0, .string a1] w fun e w' => e = .returned (.bool r) ∧ Drawn0 w w' := by
  have HR0 := Aside0.mk hr0
  have HC0 := Aside0.mk hc0
  clear hr0 hc0
  have H : (pleachref05_In_p.l0 k l0 a1 0) = some r := h
  clear h
  have H' := Aside0.mk H
  clear H
  go_enter Try.func33, Try.ntmps33
  go_wp2
  go_loopg [5] k (fun kq v5 w' => ∃ (x5_1 : Int), v5 = .int .i64 x5_1 ∧ Aside0 (pleachref05_In_p.l0 kq l0 a1 x5_1 = some r) ∧ Aside0 (kq ≤ k) ∧ Drawn0 w w')
  case atStart => exact ⟨(0), (by first | rfl | (simp; done) | (simp [*]; done) | (simp [M.isEmpty_bne]; done)), H', ⟨Nat.le_refl _⟩, by repeat (first | exact Drawn0.refl _ | apply Drawn0.step)⟩
  case round =>
    clear H'
    try clear p2
    obtain ⟨x5_1, rfl, HA, HK1, ⟨m1, rfl⟩⟩ := hrel
    cases gk with
    | zero => exact absurd HA.out (by simp [pleachref05_In_p.l0])
    | succ k1 =>
      have H := HA.out
      clear HA
      simp only [pleachref05_In_p.l0] at H
      by_cases c3 : x5_1 < (l0.length : Int)
      · rw [if_pos c3] at H
        have c3b0 : decide (x5_1 < (l0.length : Int)) = true := decide_eq_true c3
        clear c3
        by_cases c4 : 0 ≤ x5_1
        · rw [if_pos c4] at H
          have c4b0 : decide (0 ≤ x5_1) = true := decide_eq_true c4
          clear c4
          by_cases c5 : (rdOf ByteArray.empty l0 x5_1).toList = a1.toList
          · rw [if_pos c5] at H
            have c5b0 : ((rdOf ByteArray.empty l0 x5_1).toList == a1.toList) = true := beq_iff_eq.mpr c5
            have c5b1 : ((rdOf ByteArray.empty l0 x5_1).toList != a1.toList) = false := bne_eq_false_iff_eq.mpr c5
            clear c5
            obtain rfl := Option.some.inj H
            have p166 : 0 ≤ (x5_1 : Int) := of_decide_eq_true (by first | (with_reducible assumption) | assumption)
            have q166 : x5_1 < (l0.length : Int) := of_decide_eq_true (by first | (with_reducible assumption) | assumption)
            obtain ⟨ad166, e166, hx166_0⟩ := Kd.at_string HR0.out x5_1 p166 q166
            cases e166
            replace p166 := eq_true p166
            replace q166 := eq_true q166
            go_wp2
            go_ret
            exact ⟨by first | rfl | (simp; done) | (simp [*]; done), by repeat (first | exact Drawn0.refl _ | apply Drawn0.step)⟩
          · rw [if_neg c5] at H
            have c5b0 : ((rdOf ByteArray.empty l0 x5_1).toList == a1.toList) = false := beq_eq_false_iff_ne.mpr c5
            have c5b1 : ((rdOf ByteArray.empty l0 x5_1).toList != a1.toList) = true := bne_iff_ne.mpr c5
            have H' := Aside0.mk H
            clear H
            have p166 : 0 ≤ (x5_1 : Int) := of_decide_eq_true (by first | (with_reducible assumption) | assumption)
            have q166 : x5_1 < (l0.length : Int) := of_decide_eq_true (by first | (with_reducible assumption) | assumption)
            obtain ⟨ad166, e166, hx166_0⟩ := Kd.at_string HR0.out x5_1 p166 q166
            cases e166
            replace p166 := eq_true p166
            replace q166 := eq_true q166
            go_wp2
            go_roundg k1
            case measure => have := HK1.out; omega
            case rel => exact ⟨(wrap64 (x5_1 + 1)), (by first | rfl | (simp; done) | (simp [*]; done) | (simp [M.isEmpty_bne]; done)), H', ⟨by have := HK1.out; omega⟩, by repeat (first | exact Drawn0.refl _ | apply Drawn0.step)⟩
        · rw [if_neg c4] at H
          exact absurd H (by simp)
      · rw [if_neg c3] at H
        have c3b0 : decide (x5_1 < (l0.length : Int)) = false := decide_eq_false c3
        clear c3
        obtain rfl := Option.some.inj H
        go_wp2
        go_ret
        exact ⟨by first | rfl | (simp; done) | (simp [*]; done), by repeat (first | exact Drawn0.refl _ | apply Drawn0.step)⟩

-- this session's own plain form
def pleachref05_In.f (l0 : List ByteArray) (a1 : ByteArray) : Option Bool := if l0.length ≤ 4611686018427387903 then some (decide (a1 ∈ l0)) else none
theorem pleachref05_In.loop (l : List ByteArray) (s : ByteArray) (hl : l.length ≤ 4611686018427387903) (d : Nat) : ∀ (i : Nat), i + d = l.length →
    pleachref05_In_p.l0 (d + 1) l s (i : Int) = some (decide (s ∈ l.drop i)) := by
  induction d with
  | zero =>
    intro i hi
    rw [pleachref05_In_p.l0, if_neg (by omega), List.drop_of_length_le (by omega)]
    rw [decide_eq_false (by simp)]
  | succ d ih =>
    intro i hi
    have hlt : i < l.length := by omega
    have hrd : rdOf ByteArray.empty l (i : Int) = l[i] := by simp [rdOf, List.getD, hlt]
    rw [pleachref05_In_p.l0, if_pos (by omega), if_pos (by omega), hrd, M.toList_bs, M.toList_bs, M.wrap64_id (by omega) (by omega), show (i : Int) + 1 = ((i + 1 : Nat) : Int) from by omega, ih (i + 1) (by omega), List.drop_eq_getElem_cons hlt]
    by_cases h : l[i] = s
    · rw [if_pos (by rw [h]), decide_eq_true (by rw [h]; exact List.mem_cons_self)]
    · rw [if_neg (fun z => h (M.bs_inj z))]
      congr 1
      apply decide_eq_decide.2
      rw [List.mem_cons]
      exact ⟨fun z => .inr z, fun z => z.resolve_left fun e => h e.symm⟩
theorem pleachref05_In.ev (l : List ByteArray) (s : ByteArray) (r : Bool) (h : pleachref05_In.f l s = some r) : ∃ k, pleachref05_In_p.f k l s = some r := by
  unfold pleachref05_In.f at h
  split at h
  case isFalse => cases h
  case isTrue hh =>
    refine ⟨l.length + 1, ?_⟩
    rw [← h]
    exact pleachref05_In.loop l s hh l.length 0 (by omega)
theorem pleachref05_In.calls (A0 : Option Addr) (c0 : Nat) (l0 : List ByteArray) (a1 : ByteArray) (r : Bool) (w : World) (hr0 : Kd.C Kd.string w A0 l0.length l0) (hc0 : l0.length ≤ c0) (h : pleachref05_In.f l0 a1 = some r) :
    Calls Try.prog 33 #[.slice A0 l0.length c0, .string a1] w fun e w' => e = .returned (.bool r) ∧ Drawn0 w w' := by
  obtain ⟨k, hk⟩ := pleachref05_In.ev _ _ _ h
  exact pleachref05_In_p.calls (k := k) (w := w) (h := hk) (hr0 := hr0) (hc0 := hc0)

/-! ### pleachref05_Less_p: function 34 -/
def pleachref05_Less_p.l0 : Nat → List ByteArray → ByteArray → Int → Int → Option (Int)
  | 0, _, _, _, _ => none
  | k + 1, x0, x1, x5, x6 => if x6 < (x0.length : Int) then (if 0 ≤ x6 then (if (Op.bytesLess ((rdOf ByteArray.empty x0 x6).toList) x1.toList) = true then (pleachref05_Less_p.l0 k x0 x1 (wrap64 (x5 + 1)) (wrap64 (x6 + 1))) else (pleachref05_Less_p.l0 k x0 x1 x5 (wrap64 (x6 + 1)))) else (none)) else (some x5)
def pleachref05_Less_p.f (k : Nat) (l0 : List ByteArray) (a1 : ByteArray) : Option (Int) := pleachref05_Less_p.l0 k l0 a1 0 0
theorem pleachref05_Less_p.mono_l : ∀ k, (∀ y0 y1 y2 y3, LeO (pleachref05_Less_p.l0 k y0 y1 y2 y3) (pleachref05_Less_p.l0 (k + 1) y0 y1 y2 y3))
  | 0 => fun _ _ _ _ r h => by simp [pleachref05_Less_p.l0] at h
  | k + 1 => by
    have ih0 := pleachref05_Less_p.mono_l k
    · intro y0 y1 y2 y3
      unfold pleachref05_Less_p.l0
      repeat' first
      | (with_reducible exact ih0 _ _ _ _)
      | (with_reducible exact LeO.refl _)
      | (with_reducible exact LeO.none _)
      | (with_reducible refine LeO.ite ?_ ?_)
      | (with_reducible refine LeO.bind ?_ (fun _ => ?_))
      | exact ih0 _ _ _ _
      | exact LeO.none _
      | refine LeO.ite ?_ ?_
      | refine LeO.bind ?_ (fun _ => ?_)
theorem pleachref05_Less_p.mono : ∀ a0 a1 k, LeO (pleachref05_Less_p.f k a0 a1) (pleachref05_Less_p.f (k + 1) a0 a1) := by
  intro a0 a1 k
  have ih0 := pleachref05_Less_p.mono_l k
  unfold pleachref05_Less_p.f
  repeat' first
      | (with_reducible exact ih0 _ _ _ _)
      | (with_reducible exact LeO.refl _)
      | (with_reducible exact LeO.none _)
      | (with_reducible refine LeO.ite ?_ ?_)
      | (with_reducible refine LeO.bind ?_ (fun _ => ?_))
      | exact ih0 _ _ _ _
      | exact LeO.none _
      | refine LeO.ite ?_ ?_
      | refine LeO.bind ?_ (fun _ => ?_)
set_option maxHeartbeats 8000000 in
set_option maxRecDepth 100000 in
theorem pleachref05_Less_p.calls (k : Nat) (A0 : Option Addr) (c0 : Nat) (l0 : List ByteArray) (a1 : ByteArray) (r : Int) (w : World) (hr0 : Kd.C Kd.string w A0 l0.length l0) (hc0 : l0.length ≤ c0) (h : pleachref05_Less_p.f k l0 a1 = some r) :
    Calls Try.prog 34 #[.slice A0 l0.length c0, .string a1] w fun e w' => e = .returned (.int .i64 r) ∧ Drawn0 w w' := by
  have HR0 := Aside0.mk hr0
  have HC0 := Aside0.mk hc0
  clear hr0 hc0
  have H : (pleachref05_Less_p.l0 k l0 a1 0 0) = some r := h
  clear h
  have H' := Aside0.mk H
  clear H
  go_enter Try.func34, Try.ntmps34
  go_wp2
  go_loopg [5, 6] k (fun kq v5 v6 w' => ∃ (x5_1 : Int) (x6_1 : Int), v5 = .int .i64 x5_1 ∧ v6 = .int .i64 x6_1 ∧ Aside0 (pleachref05_Less_p.l0 kq l0 a1 x5_1 x6_1 = some r) ∧ Aside0 (kq ≤ k) ∧ Drawn0 w w')
  case atStart => exact ⟨(0), (0), (by first | rfl | (simp; done) | (simp [*]; done) | (simp [M.isEmpty_bne]; done)), (by first | rfl | (simp; done) | (simp [*]; done) | (simp [M.isEmpty_bne]; done)), H', ⟨Nat.le_refl _⟩, by repeat (first | exact Drawn0.refl _ | apply Drawn0.step)⟩
  case round =>
    clear H'
    try clear p2
    obtain ⟨x5_1, x6_1, rfl, rfl, HA, HK1, ⟨m1, rfl⟩⟩ := hrel
    cases gk with
    | zero => exact absurd HA.out (by simp [pleachref05_Less_p.l0])
    | succ k1 =>
      have H := HA.out
      clear HA
      simp only [pleachref05_Less_p.l0] at H
      by_cases c3 : x6_1 < (l0.length : Int)
      · rw [if_pos c3] at H
        have c3b0 : decide (x6_1 < (l0.length : Int)) = true := decide_eq_true c3
        clear c3
        by_cases c4 : 0 ≤ x6_1
        · rw [if_pos c4] at H
          have c4b0 : decide (0 ≤ x6_1) = true := decide_eq_true c4
          clear c4
          by_cases c5 : (Op.bytesLess ((rdOf ByteArray.empty l0 x6_1).toList) a1.toList) = true
          · rw [if_pos c5] at H
            have c5b0 : (Op.bytesLess ((rdOf ByteArray.empty l0 x6_1).toList) a1.toList) = true := c5
            clear c5
            have H' := Aside0.mk H
            clear H
            have p167 : 0 ≤ (x6_1 : Int) := of_decide_eq_true (by first | (with_reducible assumption) | assumption)
            have q167 : x6_1 < (l0.length : Int) := of_decide_eq_true (by first | (with_reducible assumption) | assumption)
            obtain ⟨ad167, e167, hx167_0⟩ := Kd.at_string HR0.out x6_1 p167 q167
            cases e167
            replace p167 := eq_true p167
            replace q167 := eq_true q167
            go_wp2
            go_roundg k1
            case measure => have := HK1.out; omega
            case rel => exact ⟨(wrap64 (x5_1 + 1)), (wrap64 (x6_1 + 1)), (by first | rfl | (simp; done) | (simp [*]; done) | (simp [M.isEmpty_bne]; done)), (by first | rfl | (simp; done) | (simp [*]; done) | (simp [M.isEmpty_bne]; done)), H', ⟨by have := HK1.out; omega⟩, by repeat (first | exact Drawn0.refl _ | apply Drawn0.step)⟩
          · rw [if_neg c5] at H
            have c5b0 : (Op.bytesLess ((rdOf ByteArray.empty l0 x6_1).toList) a1.toList) = false := by simpa using c5
            clear c5
            have H' := Aside0.mk H
            clear H
            have p167 : 0 ≤ (x6_1 : Int) := of_decide_eq_true (by first | (with_reducible assumption) | assumption)
            have q167 : x6_1 < (l0.length : Int) := of_decide_eq_true (by first | (with_reducible assumption) | assumption)
            obtain ⟨ad167, e167, hx167_0⟩ := Kd.at_string HR0.out x6_1 p167 q167
            cases e167
            replace p167 := eq_true p167
            replace q167 := eq_true q167
            go_wp2
            go_roundg k1
            case measure => have := HK1.out; omega
            case rel => exact ⟨(x5_1), (wrap64 (x6_1 + 1)), (by first | rfl | (simp; done) | (simp [*]; done) | (simp [M.isEmpty_bne]; done)), (by first | rfl | (simp; done) | (simp [*]; done) | (simp [M.isEmpty_bne]; done)), H', ⟨by have := HK1.out; omega⟩, by repeat (first | exact Drawn0.refl _ | apply Drawn0.step)⟩
        · rw [if_neg c4] at H
          exact absurd H (by simp)
      · rw [if_neg c3] at H
        have c3b0 : decide (x6_1 < (l0.length : Int)) = false := decide_eq_false c3
        clear c3
        obtain rfl := Option.some.inj H
        go_wp2
        go_ret
        exact ⟨by first | rfl | (simp; done) | (simp [*]; done), by repeat (first | exact Drawn0.refl _ | apply Drawn0.step)⟩

-- this session's own plain form
def pleachref05_Less.f (l0 : List ByteArray) (a1 : ByteArray) : Option Int := if l0.length ≤ 4611686018427387903 then some ((M.cnt l0 a1 : Nat) : Int) else none
theorem pleachref05_Less.loop (l : List ByteArray) (s : ByteArray) (hl : l.length ≤ 4611686018427387903) (d : Nat) : ∀ (i n : Nat), i + d = l.length → n ≤ i →
    pleachref05_Less_p.l0 (d + 1) l s (n : Int) (i : Int) = some ((n + M.cnt (l.drop i) s : Nat) : Int) := by
  induction d with
  | zero =>
    intro i n hi hn
    rw [pleachref05_Less_p.l0, if_neg (by omega), List.drop_of_length_le (by omega)]; rfl
  | succ d ih =>
    intro i n hi hn
    have hlt : i < l.length := by omega
    have hrd : rdOf ByteArray.empty l (i : Int) = l[i] := by simp [rdOf, List.getD, hlt]
    rw [pleachref05_Less_p.l0, if_pos (by omega), if_pos (by omega), hrd, M.wrap64_id (i := (i : Int) + 1) (by omega) (by omega), show (i : Int) + 1 = ((i + 1 : Nat) : Int) from by omega, List.drop_eq_getElem_cons hlt]
    have e : M.cnt (l[i] :: l.drop (i + 1)) s = (if M.lt l[i] s then 1 else 0) + M.cnt (l.drop (i + 1)) s := by
      unfold M.cnt
      rw [List.filter_cons]
      by_cases h : M.lt l[i] s
      · rw [if_pos h, if_pos (decide_eq_true h), List.length_cons]; omega
      · rw [if_neg h, if_neg (by simp [h])]; omega
    rw [e]
    by_cases hc : M.lt l[i] s
    · have hc' : Op.bytesLess l[i].toList s.toList = true := hc
      rw [if_pos hc', if_pos hc, M.wrap64_id (by omega) (by omega), show (n : Int) + 1 = ((n + 1 : Nat) : Int) from by omega, ih (i + 1) (n + 1) (by omega) (by omega)]
      congr 2; omega
    · have hc' : ¬ Op.bytesLess l[i].toList s.toList = true := hc
      rw [if_neg hc', if_neg hc, ih (i + 1) n (by omega) (by omega)]
      congr 2; omega
theorem pleachref05_Less.ev (l : List ByteArray) (s : ByteArray) (r : Int) (h : pleachref05_Less.f l s = some r) : ∃ k, pleachref05_Less_p.f k l s = some r := by
  unfold pleachref05_Less.f at h
  split at h
  case isFalse => cases h
  case isTrue hh =>
    refine ⟨l.length + 1, ?_⟩
    rw [← h]
    have := pleachref05_Less.loop l s hh l.length 0 0 (by omega) (by omega)
    rw [List.drop_zero, Nat.zero_add] at this
    exact this
theorem pleachref05_Less.calls (A0 : Option Addr) (c0 : Nat) (l0 : List ByteArray) (a1 : ByteArray) (r : Int) (w : World) (hr0 : Kd.C Kd.string w A0 l0.length l0) (hc0 : l0.length ≤ c0) (h : pleachref05_Less.f l0 a1 = some r) :
    Calls Try.prog 34 #[.slice A0 l0.length c0, .string a1] w fun e w' => e = .returned (.int .i64 r) ∧ Drawn0 w w' := by
  obtain ⟨k, hk⟩ := pleachref05_Less.ev _ _ _ h
  exact pleachref05_Less_p.calls (k := k) (w := w) (h := hk) (hr0 := hr0) (hc0 := hc0)

end Go.Proofs.Ytkaglpjdeinbhaa.ERefsRecords
