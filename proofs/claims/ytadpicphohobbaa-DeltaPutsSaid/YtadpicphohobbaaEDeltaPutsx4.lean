-- Written by this session's own program (wip/tools/ext.py) for this claim; Lean checks it.
import Derived.Test.YtadpicphohobbaaEDeltaPutsx0
import Derived.Test.YtadpicphohobbaaEDeltaPutsx3
namespace Go.Proofs.Ytadpicphohobbaa.EDeltaPuts
open Go.RowKit Go.Proofs.YtadpicphohobbaaW.PrintWords Go.Proofs.YtadpicphohobbaaW.PrintLast Go.Proofs.YtadpicphohobbaaW.PrintMore
attribute [local go_sem] M.run_leq M.run_gtr M.run_geq max2_int min2_int max_two min_two max_three min_three max_four min_four   -- for this text's walks alone
set_option linter.unusedVariables false
set_option linter.unusedSimpArgs false

/-! ### pleachref11_Put_p: function 9 -/
def pleachref11_Put_p.l0 : Nat → List (S34) → ByteArray → Int → Option (ByteArray × Bool)
  | 0, _, _, _ => none
  | k + 1, x0, x4, x5 => if x5 < (x0.length : Int) then (if 0 ≤ x5 then ((pleachref11_Is.f ((rd_T34 x0 x5).f0) ((rd_T34 x0 x5).f1) ((rd_T34 x0 x5).f2) ((rd_T34 x0 x5).f3)).bind fun t129 => (if t129 = true then (if (rd_T34 x0 x5).f0 = true then ((pleachref04_PutNum.f (wrap64 ((wrap64 (2 * ((rd_T34 x0 x5).f2))) + 1))).bind fun t132 => (if x4.size + t132.size ≤ 9223372036854775807 then ((pleachref04_PutNum.f ((rd_T34 x0 x5).f1)).bind fun t134 => (if (x4 ++ t132).size + t134.size ≤ 9223372036854775807 then (pleachref11_Put_p.l0 k x0 ((x4 ++ t132) ++ t134) (wrap64 (x5 + 1))) else (none))) else (none))) else ((pleachref04_PutNum.f (wrap64 (2 * ((rd_T34 x0 x5).f2)))).bind fun t136 => (if x4.size + t136.size ≤ 9223372036854775807 then (if (x4 ++ t136).size + ((rd_T34 x0 x5).f3).size ≤ 9223372036854775807 then (pleachref11_Put_p.l0 k x0 ((x4 ++ t136) ++ ((rd_T34 x0 x5).f3)) (wrap64 (x5 + 1))) else (none)) else (none)))) else (some ((⟨#[]⟩ : ByteArray), false)))) else (none)) else (some (x4, true))
def pleachref11_Put_p.f (k : Nat) (l0 : List (S34)) : Option (ByteArray × Bool) := pleachref11_Put_p.l0 k l0 (⟨#[]⟩ : ByteArray) 0
theorem pleachref11_Put_p.mono_l : ∀ k, (∀ y0 y1 y2, LeO (pleachref11_Put_p.l0 k y0 y1 y2) (pleachref11_Put_p.l0 (k + 1) y0 y1 y2))
  | 0 => fun _ _ _ r h => by simp [pleachref11_Put_p.l0] at h
  | k + 1 => by
    have ih0 := pleachref11_Put_p.mono_l k
    · intro y0 y1 y2
      unfold pleachref11_Put_p.l0
      repeat' first
      | (with_reducible exact ih0 _ _ _)
      | (with_reducible exact LeO.refl _)
      | (with_reducible exact LeO.none _)
      | (with_reducible refine LeO.ite ?_ ?_)
      | (with_reducible refine LeO.bind ?_ (fun _ => ?_))
      | exact ih0 _ _ _
      | exact LeO.none _
      | refine LeO.ite ?_ ?_
      | refine LeO.bind ?_ (fun _ => ?_)
theorem pleachref11_Put_p.mono : ∀ a0 k, LeO (pleachref11_Put_p.f k a0) (pleachref11_Put_p.f (k + 1) a0) := by
  intro a0 k
  have ih0 := pleachref11_Put_p.mono_l k
  unfold pleachref11_Put_p.f
  repeat' first
      | (with_reducible exact ih0 _ _ _)
      | (with_reducible exact LeO.refl _)
      | (with_reducible exact LeO.none _)
      | (with_reducible refine LeO.ite ?_ ?_)
      | (with_reducible refine LeO.bind ?_ (fun _ => ?_))
      | exact ih0 _ _ _
      | exact LeO.none _
      | refine LeO.ite ?_ ?_
      | refine LeO.bind ?_ (fun _ => ?_)
def pleachref11_Put_p.T8 : Bool × List (List Nat × List Nat) := (true, [([], []), ([], []), ([], []), ([1, 2], [1, 2]), ([3], [3]), ([4], [4]), ([5], [5]), ([6], [6]), ([7], [7]), ([0, 8], [0, 8]), ([], []), ([], []), ([10, 11], [10, 11]), ([12], [12]), ([13], [13]), ([14, 8], [14]), ([9, 15], [9, 15]), ([16, 15, 0, 1, 2, 3, 4, 5, 6, 7, 8, 9, 10, 11, 12, 13, 14, 15, 16], [0, 16])])
def pleachref11_Put_p.B8 : List Nat := [0, 0, 0, 6, 14, 30, 62, 126, 254, 511, 0, 0, 3072, 7168, 15360, 32254, 65535, 131071]
theorem pleachref11_Put_p.tab8 : rtab .any (opsOf Try.f9 8) = pleachref11_Put_p.T8 := by kernel_rfl
theorem pleachref11_Put_p.bits8 : waitsOk pleachref11_Put_p.T8.2 pleachref11_Put_p.B8 = true := by kernel_rfl
def pleachref11_Put_p.T9 : Bool × List (List Nat × List Nat) := (true, [([], []), ([], []), ([], []), ([1, 2], [1, 2]), ([3], [3]), ([4], [4]), ([5], [5]), ([6], [6]), ([0, 7], [0, 7]), ([], []), ([], []), ([9, 10], [9, 10]), ([11], [11]), ([12], [12]), ([8, 13], [8, 13]), ([14, 7, 0, 1, 2, 3, 4, 5, 6, 7, 8, 9, 10, 11, 12, 13, 14], [0, 14])])
def pleachref11_Put_p.B9 : List Nat := [0, 0, 0, 6, 14, 30, 62, 126, 255, 0, 0, 1536, 3584, 7680, 16383, 32767]
theorem pleachref11_Put_p.tab9 : rtab .any (opsOf Try.f9 9) = pleachref11_Put_p.T9 := by kernel_rfl
theorem pleachref11_Put_p.bits9 : waitsOk pleachref11_Put_p.T9.2 pleachref11_Put_p.B9 = true := by kernel_rfl
set_option maxHeartbeats 8000000 in
set_option maxRecDepth 100000 in
theorem pleachref11_Put_p.calls (k : Nat) (A0 : Option Addr) (c0 : Nat) (l0 : List (S34)) (r1 : ByteArray) (r2 : Bool) (w : World) (hr0 : Kd.C k34 w A0 l0.length l0) (hc0 : l0.length ≤ c0) (h : pleachref11_Put_p.f k l0 = some (r1, r2)) :
    Calls Try.prog 9 #[.slice A0 l0.length c0] w fun e w' => e = .returned (.tuple #[.string r1, .bool r2]) ∧ Below w.heap.size w w' := by
  have hu34 := Try.underlying34
  have HR0 := Aside0.mk hr0
  have HC0 := Aside0.mk hc0
  clear hr0 hc0
  have HB := Aside0.mk (Below.refl w.heap.size w)
  have H : (pleachref11_Put_p.l0 k l0 (⟨#[]⟩ : ByteArray) 0) = some (r1, r2) := h
  clear h
  have H' := Aside0.mk H
  clear H
  go_enter Try.func9, Try.ntmps9
  go_wp2
  go_loopg [4, 5] k (fun kq v4 v5 w' => ∃ (x4_1 : ByteArray) (x5_1 : Int), v4 = .string x4_1 ∧ v5 = .int .i64 x5_1 ∧ Aside0 (pleachref11_Put_p.l0 kq l0 x4_1 x5_1 = some (r1, r2)) ∧ Aside0 (kq ≤ k) ∧ Aside0 (Below w.heap.size w w'))
  case atStart => exact ⟨((⟨#[]⟩ : ByteArray)), (0), (by first | rfl | (simp; done) | (simp [*]; done) | (simp [M.isEmpty_bne]; done)), (by first | rfl | (simp; done) | (simp [*]; done) | (simp [M.isEmpty_bne]; done)), H', ⟨Nat.le_refl _⟩, ⟨M.up HB⟩⟩
  case round =>
    clear H'
    obtain ⟨x4_1, x5_1, rfl, rfl, HA, HK1, HB⟩ := hrel
    cases gk with
    | zero => exact absurd HA.out (by simp [pleachref11_Put_p.l0])
    | succ k1 =>
      have H := HA.out
      clear HA
      simp only [pleachref11_Put_p.l0] at H
      by_cases c2 : x5_1 < (l0.length : Int)
      · rw [if_pos c2] at H
        have c2b0 : decide (x5_1 < (l0.length : Int)) = true := decide_eq_true c2
        clear c2
        by_cases c3 : 0 ≤ x5_1
        · rw [if_pos c3] at H
          have c3b0 : decide (0 ≤ x5_1) = true := decide_eq_true c3
          clear c3
          replace H := Option.bind_eq_some_iff.mp H
          obtain ⟨t129, A40, H⟩ := H
          replace H : (if t129 = true then (if (rd_T34 l0 x5_1).f0 = true then ((pleachref04_PutNum.f (wrap64 ((wrap64 (2 * ((rd_T34 l0 x5_1).f2))) + 1))).bind fun t132 => (if x4_1.size + t132.size ≤ 9223372036854775807 then ((pleachref04_PutNum.f ((rd_T34 l0 x5_1).f1)).bind fun t134 => (if (x4_1 ++ t132).size + t134.size ≤ 9223372036854775807 then (pleachref11_Put_p.l0 k1 l0 ((x4_1 ++ t132) ++ t134) (wrap64 (x5_1 + 1))) else (none))) else (none))) else ((pleachref04_PutNum.f (wrap64 (2 * ((rd_T34 l0 x5_1).f2)))).bind fun t136 => (if x4_1.size + t136.size ≤ 9223372036854775807 then (if (x4_1 ++ t136).size + ((rd_T34 l0 x5_1).f3).size ≤ 9223372036854775807 then (pleachref11_Put_p.l0 k1 l0 ((x4_1 ++ t136) ++ ((rd_T34 l0 x5_1).f3)) (wrap64 (x5_1 + 1))) else (none)) else (none)))) else (some ((⟨#[]⟩ : ByteArray), false))) = some (r1, r2) := H
          have A4 := Aside0.mk A40
          clear A40
          by_cases c5 : t129 = true
          · subst c5
            have H1 : (if (rd_T34 l0 x5_1).f0 = true then ((pleachref04_PutNum.f (wrap64 ((wrap64 (2 * ((rd_T34 l0 x5_1).f2))) + 1))).bind fun t132 => (if x4_1.size + t132.size ≤ 9223372036854775807 then ((pleachref04_PutNum.f ((rd_T34 l0 x5_1).f1)).bind fun t134 => (if (x4_1 ++ t132).size + t134.size ≤ 9223372036854775807 then (pleachref11_Put_p.l0 k1 l0 ((x4_1 ++ t132) ++ t134) (wrap64 (x5_1 + 1))) else (none))) else (none))) else ((pleachref04_PutNum.f (wrap64 (2 * ((rd_T34 l0 x5_1).f2)))).bind fun t136 => (if x4_1.size + t136.size ≤ 9223372036854775807 then (if (x4_1 ++ t136).size + ((rd_T34 l0 x5_1).f3).size ≤ 9223372036854775807 then (pleachref11_Put_p.l0 k1 l0 ((x4_1 ++ t136) ++ ((rd_T34 l0 x5_1).f3)) (wrap64 (x5_1 + 1))) else (none)) else (none)))) = some (r1, r2) := by rw [if_pos rfl] at H; exact H
            clear H
            have H := H1
            clear H1
            obtain ⟨bq6, hbq6⟩ : ∃ b_ : Bool, b_ = ((rd_T34 l0 x5_1).f0) := ⟨_, rfl⟩
            replace H : (if bq6 = true then ((pleachref04_PutNum.f (wrap64 ((wrap64 (2 * ((rd_T34 l0 x5_1).f2))) + 1))).bind fun t132 => (if x4_1.size + t132.size ≤ 9223372036854775807 then ((pleachref04_PutNum.f ((rd_T34 l0 x5_1).f1)).bind fun t134 => (if (x4_1 ++ t132).size + t134.size ≤ 9223372036854775807 then (pleachref11_Put_p.l0 k1 l0 ((x4_1 ++ t132) ++ t134) (wrap64 (x5_1 + 1))) else (none))) else (none))) else ((pleachref04_PutNum.f (wrap64 (2 * ((rd_T34 l0 x5_1).f2)))).bind fun t136 => (if x4_1.size + t136.size ≤ 9223372036854775807 then (if (x4_1 ++ t136).size + ((rd_T34 l0 x5_1).f3).size ≤ 9223372036854775807 then (pleachref11_Put_p.l0 k1 l0 ((x4_1 ++ t136) ++ ((rd_T34 l0 x5_1).f3)) (wrap64 (x5_1 + 1))) else (none)) else (none)))) = some (r1, r2) := by rw [← hbq6] at H; exact H
            have Nbq6 := Aside0.mk hbq6
            clear hbq6
            by_cases c7 : bq6 = true
            · subst c7
              have H1 : ((pleachref04_PutNum.f (wrap64 ((wrap64 (2 * ((rd_T34 l0 x5_1).f2))) + 1))).bind fun t132 => (if x4_1.size + t132.size ≤ 9223372036854775807 then ((pleachref04_PutNum.f ((rd_T34 l0 x5_1).f1)).bind fun t134 => (if (x4_1 ++ t132).size + t134.size ≤ 9223372036854775807 then (pleachref11_Put_p.l0 k1 l0 ((x4_1 ++ t132) ++ t134) (wrap64 (x5_1 + 1))) else (none))) else (none))) = some (r1, r2) := by rw [if_pos rfl] at H; exact H
              clear H
              have H := H1
              clear H1
              replace H := Option.bind_eq_some_iff.mp H
              obtain ⟨t132, A80, H⟩ := H
              replace H : (if x4_1.size + t132.size ≤ 9223372036854775807 then ((pleachref04_PutNum.f ((rd_T34 l0 x5_1).f1)).bind fun t134 => (if (x4_1 ++ t132).size + t134.size ≤ 9223372036854775807 then (pleachref11_Put_p.l0 k1 l0 ((x4_1 ++ t132) ++ t134) (wrap64 (x5_1 + 1))) else (none))) else (none)) = some (r1, r2) := H
              have A8 := Aside0.mk A80
              clear A80
              by_cases c9 : x4_1.size + t132.size ≤ 9223372036854775807
              · rw [if_pos c9] at H
                have c9b0 := eq_true c9
                have c9b1 : decide (x4_1.size + t132.size ≤ 9223372036854775807) = true := decide_eq_true c9
                try have c9b2 : (9223372036854775807 < x4_1.size + t132.size) = False := eq_false (Nat.not_lt.2 c9)
                replace H := Option.bind_eq_some_iff.mp H
                obtain ⟨t134, A100, H⟩ := H
                replace H : (if (x4_1 ++ t132).size + t134.size ≤ 9223372036854775807 then (pleachref11_Put_p.l0 k1 l0 ((x4_1 ++ t132) ++ t134) (wrap64 (x5_1 + 1))) else (none)) = some (r1, r2) := H
                have A10 := Aside0.mk A100
                clear A100
                by_cases c11 : (x4_1 ++ t132).size + t134.size ≤ 9223372036854775807
                · rw [if_pos c11] at H
                  have c11b0 := eq_true c11
                  have c11b1 : decide ((x4_1 ++ t132).size + t134.size ≤ 9223372036854775807) = true := decide_eq_true c11
                  try have c11b2 : (9223372036854775807 < (x4_1 ++ t132).size + t134.size) = False := eq_false (Nat.not_lt.2 c11)
                  have c11m := c11
                  (try simp only [ByteArray.size_append] at c11m)
                  have c11b3 := eq_true c11m
                  have c11b4 := eq_false (Nat.not_lt.2 c11m)
                  have c11b5 := decide_eq_true c11m
                  have H' := Aside0.mk H
                  clear H
                  have p128 : 0 ≤ (x5_1 : Int) := of_decide_eq_true (by first | (with_reducible assumption) | assumption)
                  have q128 : x5_1 < (l0.length : Int) := of_decide_eq_true (by first | (with_reducible assumption) | assumption)
                  obtain ⟨ad128, e128, hx128_0, hx128_1, hx128_2, hx128_3⟩ := at_T34 HR0.out x5_1 p128 q128
                  (try rw [← Nbq6.out] at hx128_0)
                  cases e128
                  replace hx128_0 := (HB.out.cell (World.block_lt_of_cell? w _ hx128_0)).trans hx128_0
                  replace hx128_1 := (HB.out.cell (World.block_lt_of_cell? w _ hx128_1)).trans hx128_1
                  replace hx128_2 := (HB.out.cell (World.block_lt_of_cell? w _ hx128_2)).trans hx128_2
                  replace hx128_3 := (HB.out.cell (World.block_lt_of_cell? w _ hx128_3)).trans hx128_3
                  replace p128 := eq_true p128
                  replace q128 := eq_true q128
                  try go_wp2_with (first | ((with_reducible refine gate_callee (f := 15) rfl ?_); refine M.goes (some 16) Try.func15 #[.agg #[.bool true, .int .i64 ((rd_T34 l0 x5_1).f1), .int .i64 ((rd_T34 l0 x5_1).f2), .string ((rd_T34 l0 x5_1).f3)]] rfl ?_; (with_reducible refine (pleachref11_Is.calls true ((rd_T34 l0 x5_1).f1) ((rd_T34 l0 x5_1).f2) ((rd_T34 l0 x5_1).f3) true _ (by first | exact A4.out | (have q_ := A4.out; rw [← Nbq6.out] at q_; exact q_))).mono ?_); rintro e w12 ⟨rfl, hb⟩; refine ⟨_, rfl, ?_⟩; have n0_ := M.upS HB hb; clear HB; have HB := n0_; clear n0_; (try clear hb); have p130 : 0 ≤ (x5_1 : Int) := of_decide_eq_true (by first | (with_reducible assumption) | assumption); have q130 : x5_1 < (l0.length : Int) := of_decide_eq_true (by first | (with_reducible assumption) | assumption); obtain ⟨ad130, e130, hx130_0, hx130_1, hx130_2, hx130_3⟩ := at_T34 HR0.out x5_1 p130 q130; (try rw [← Nbq6.out] at hx130_0); obtain rfl : ad128 = ad130 := (by injection e130); replace hx130_0 := (HB.out.cell (World.block_lt_of_cell? w _ hx130_0)).trans hx130_0; replace hx130_1 := (HB.out.cell (World.block_lt_of_cell? w _ hx130_1)).trans hx130_1; replace hx130_2 := (HB.out.cell (World.block_lt_of_cell? w _ hx130_2)).trans hx130_2; replace hx130_3 := (HB.out.cell (World.block_lt_of_cell? w _ hx130_3)).trans hx130_3; replace p130 := eq_true p130; replace q130 := eq_true q130))
                  have n0_ := Aside0.mk (below_drew1 HB.out)
                  clear HB
                  have HB := n0_
                  clear n0_
                  have p131 : 0 ≤ (x5_1 : Int) := of_decide_eq_true (by first | (with_reducible assumption) | assumption)
                  have q131 : x5_1 < (l0.length : Int) := of_decide_eq_true (by first | (with_reducible assumption) | assumption)
                  obtain ⟨ad131, e131, hx131_0, hx131_1, hx131_2, hx131_3⟩ := at_T34 HR0.out x5_1 p131 q131
                  have hw131_3 := hx131_3
                  have hw131_2 := hx131_2
                  have hw131_1 := hx131_1
                  have hw131_0 := hx131_0
                  (try rw [← Nbq6.out] at hx131_0)
                  obtain rfl : ad128 = ad131 := (by injection e131)
                  replace hx131_0 := (HB.out.cell (World.block_lt_of_cell? w _ hx131_0)).trans hx131_0
                  replace hx131_1 := (HB.out.cell (World.block_lt_of_cell? w _ hx131_1)).trans hx131_1
                  replace hx131_2 := (HB.out.cell (World.block_lt_of_cell? w _ hx131_2)).trans hx131_2
                  replace hx131_3 := (HB.out.cell (World.block_lt_of_cell? w _ hx131_3)).trans hx131_3
                  replace p131 := eq_true p131
                  replace q131 := eq_true q131
                  have p133 : 0 ≤ (x5_1 : Int) := of_decide_eq_true (by first | (with_reducible assumption) | assumption)
                  have q133 : x5_1 < (l0.length : Int) := of_decide_eq_true (by first | (with_reducible assumption) | assumption)
                  obtain ⟨ad133, e133, hx133_0, hx133_1, hx133_2, hx133_3⟩ := at_T34 HR0.out x5_1 p133 q133
                  have hw133_3 := hx133_3
                  have hw133_2 := hx133_2
                  have hw133_1 := hx133_1
                  have hw133_0 := hx133_0
                  (try rw [← Nbq6.out] at hx133_0)
                  obtain rfl : ad128 = ad133 := (by injection e133)
                  replace hx133_0 := (HB.out.cell (World.block_lt_of_cell? w _ hx133_0)).trans hx133_0
                  replace hx133_1 := (HB.out.cell (World.block_lt_of_cell? w _ hx133_1)).trans hx133_1
                  replace hx133_2 := (HB.out.cell (World.block_lt_of_cell? w _ hx133_2)).trans hx133_2
                  replace hx133_3 := (HB.out.cell (World.block_lt_of_cell? w _ hx133_3)).trans hx133_3
                  replace p133 := eq_true p133
                  replace q133 := eq_true q133
                  refine start_ (n := 18) (S := fun w' => w'.cell? (ad128.add ((x5_1).toNat * 4)) = some (.bool (true)) ∧ w'.cell? ⟨(ad128.add ((x5_1).toNat * 4)).block, (ad128.add ((x5_1).toNat * 4)).off + 1, none⟩ = some (.int .i64 ((rd_T34 l0 x5_1).f1)) ∧ w'.cell? ⟨(ad128.add ((x5_1).toNat * 4)).block, (ad128.add ((x5_1).toNat * 4)).off + 2, none⟩ = some (.int .i64 ((rd_T34 l0 x5_1).f2)) ∧ w'.cell? ⟨(ad128.add ((x5_1).toNat * 4)).block, (ad128.add ((x5_1).toNat * 4)).off + 3, none⟩ = some (.string ((rd_T34 l0 x5_1).f3)) ∧ w'.cell? (ad128.add ((x5_1).toNat * 4)) = some (.bool (true)) ∧ w'.cell? ⟨(ad128.add ((x5_1).toNat * 4)).block, (ad128.add ((x5_1).toNat * 4)).off + 1, none⟩ = some (.int .i64 ((rd_T34 l0 x5_1).f1)) ∧ w'.cell? ⟨(ad128.add ((x5_1).toNat * 4)).block, (ad128.add ((x5_1).toNat * 4)).off + 2, none⟩ = some (.int .i64 ((rd_T34 l0 x5_1).f2)) ∧ w'.cell? ⟨(ad128.add ((x5_1).toNat * 4)).block, (ad128.add ((x5_1).toNat * 4)).off + 3, none⟩ = some (.string ((rd_T34 l0 x5_1).f3))) (ds := []) (M.tf [0, 18]) (by kernel_rfl) rfl rfl ⟨(by first | exact ((HB.out.cell (World.block_lt_of_cell? w _ hw131_0)).trans hw131_0) | (have q_ := ((HB.out.cell (World.block_lt_of_cell? w _ hw131_0)).trans hw131_0); rw [← Nbq6.out] at q_; exact q_)), (by first | exact ((HB.out.cell (World.block_lt_of_cell? w _ hw131_1)).trans hw131_1) | (have q_ := ((HB.out.cell (World.block_lt_of_cell? w _ hw131_1)).trans hw131_1); rw [← Nbq6.out] at q_; exact q_)), (by first | exact ((HB.out.cell (World.block_lt_of_cell? w _ hw131_2)).trans hw131_2) | (have q_ := ((HB.out.cell (World.block_lt_of_cell? w _ hw131_2)).trans hw131_2); rw [← Nbq6.out] at q_; exact q_)), (by first | exact ((HB.out.cell (World.block_lt_of_cell? w _ hw131_3)).trans hw131_3) | (have q_ := ((HB.out.cell (World.block_lt_of_cell? w _ hw131_3)).trans hw131_3); rw [← Nbq6.out] at q_; exact q_)), (by first | exact ((HB.out.cell (World.block_lt_of_cell? w _ hw133_0)).trans hw133_0) | (have q_ := ((HB.out.cell (World.block_lt_of_cell? w _ hw133_0)).trans hw133_0); rw [← Nbq6.out] at q_; exact q_)), (by first | exact ((HB.out.cell (World.block_lt_of_cell? w _ hw133_1)).trans hw133_1) | (have q_ := ((HB.out.cell (World.block_lt_of_cell? w _ hw133_1)).trans hw133_1); rw [← Nbq6.out] at q_; exact q_)), (by first | exact ((HB.out.cell (World.block_lt_of_cell? w _ hw133_2)).trans hw133_2) | (have q_ := ((HB.out.cell (World.block_lt_of_cell? w _ hw133_2)).trans hw133_2); rw [← Nbq6.out] at q_; exact q_)), (by first | exact ((HB.out.cell (World.block_lt_of_cell? w _ hw133_3)).trans hw133_3) | (have q_ := ((HB.out.cell (World.block_lt_of_cell? w _ hw133_3)).trans hw133_3); rw [← Nbq6.out] at q_; exact q_))⟩ (fun hHeld => ?_); refine with_tabW pleachref11_Put_p.tab8 pleachref11_Put_p.bits8 (fun HT_ HW_ => ?_)
                  generalize w12.drew = w13 at HB hx131_0 hx131_1 hx131_2 hx131_3 hx133_0 hx133_1 hx133_2 hx133_3 hHeld ⊢
                  refine pure_ (i := 0) (N := some 23) (v := ?_) (a' := ?_) (M.tf [1, 17]) rfl rfl (any_of HT_.out (by kernel_rfl)) (fun _ _ _ h => h) (Or.inl ⟨by rfl, ?_⟩) ?_ ?_
                  rotate_left
                  · intro w'
                    go_simp
                    with_reducible rfl
                  rotate_left
                  · simp only [Act.put, List.setIfInBounds_toArray, List.set_cons_zero, List.set_cons_succ, i64_w, i32_w]
                    rfl
                  refine pure_ (i := 1) (N := some 24) (v := ?_) (a' := ?_) (M.tf [2, 16]) rfl rfl (any_of HT_.out (by kernel_rfl)) (fun _ _ _ h => h) (Or.inl ⟨by rfl, ?_⟩) ?_ ?_
                  rotate_left
                  · intro w'
                    go_simp
                    with_reducible rfl
                  rotate_left
                  · simp only [Act.put, List.setIfInBounds_toArray, List.set_cons_zero, List.set_cons_succ, i64_w, i32_w]
                    rfl
                  refine pure_ (i := 2) (N := some 25) (v := ?_) (a' := ?_) (M.tf [3, 15]) rfl rfl (any_of HT_.out (by kernel_rfl)) (fun _ _ _ h => h) (Or.inl ⟨by rfl, ?_⟩) ?_ ?_
                  rotate_left
                  · intro w'
                    go_simp
                    with_reducible rfl
                  rotate_left
                  · simp only [Act.put, List.setIfInBounds_toArray, List.set_cons_zero, List.set_cons_succ, i64_w, i32_w]
                    rfl
                  refine pure_ (i := 3) (N := some 26) (v := ?_) (a' := ?_) (M.tf [4, 14]) rfl rfl (any_of HT_.out (by kernel_rfl)) (fun _ _ _ h => h) (Or.inl ⟨by rfl, ?_⟩) ?_ ?_
                  rotate_left
                  · intro w'
                    go_simp
                    with_reducible rfl
                  rotate_left
                  · simp only [Act.put, List.setIfInBounds_toArray, List.set_cons_zero, List.set_cons_succ, i64_w, i32_w]
                    rfl
                  refine pure_ (i := 4) (N := some 27) (v := ?_) (a' := ?_) (M.tf [5, 13]) rfl rfl (any_of HT_.out (by kernel_rfl)) (fun _ _ _ h => h) (Or.inl ⟨by rfl, ?_⟩) ?_ ?_
                  rotate_left
                  · intro w'
                    go_simp
                    with_reducible rfl
                  rotate_left
                  · simp only [Act.put, List.setIfInBounds_toArray, List.set_cons_zero, List.set_cons_succ, i64_w, i32_w]
                    rfl
                  refine pure_ (i := 10) (N := some 33) (v := ?_) (a' := ?_) (M.tf [5, 5, 1, 7]) rfl rfl (any_of HT_.out (by kernel_rfl)) (fun _ _ _ h => h) (Or.inl ⟨by rfl, ?_⟩) ?_ ?_
                  rotate_left
                  · intro w'
                    go_simp
                    with_reducible rfl
                  rotate_left
                  · simp only [Act.put, List.setIfInBounds_toArray, List.set_cons_zero, List.set_cons_succ, i64_w, i32_w]
                    rfl
                  refine pure_ (i := 11) (N := some 34) (v := ?_) (a' := ?_) (M.tf [5, 5, 2, 6]) rfl rfl (any_of HT_.out (by kernel_rfl)) (fun _ _ _ h => h) (Or.inl ⟨by rfl, ?_⟩) ?_ ?_
                  rotate_left
                  · intro w'
                    go_simp
                    with_reducible rfl
                  rotate_left
                  · simp only [Act.put, List.setIfInBounds_toArray, List.set_cons_zero, List.set_cons_succ, i64_w, i32_w]
                    rfl
                  refine pure_ (i := 12) (N := some 35) (v := ?_) (a' := ?_) (M.tf [5, 5, 3, 5]) rfl rfl (any_of HT_.out (by kernel_rfl)) (fun _ _ _ h => h) (Or.inl ⟨by rfl, ?_⟩) ?_ ?_
                  rotate_left
                  · intro w'
                    go_simp
                    with_reducible rfl
                  rotate_left
                  · simp only [Act.put, List.setIfInBounds_toArray, List.set_cons_zero, List.set_cons_succ, i64_w, i32_w]
                    rfl
                  refine pure_ (i := 13) (N := some 36) (v := ?_) (a' := ?_) (M.tf [5, 5, 4, 4]) rfl rfl (any_of HT_.out (by kernel_rfl)) (fun _ _ _ h => h) (Or.inl ⟨by rfl, ?_⟩) ?_ ?_
                  rotate_left
                  · intro w'
                    go_simp
                    with_reducible rfl
                  rotate_left
                  · simp only [Act.put, List.setIfInBounds_toArray, List.set_cons_zero, List.set_cons_succ, i64_w, i32_w]
                    rfl
                  refine take_ (i := 5) (N := some 28) (v := ?_) (a' := ?_) (M.tf [6, 4, 4, 4]) rfl rfl (take_ofW HT_.out HW_.out (by kernel_rfl)) (fun _ _ _ h => h) (Or.inl ⟨by rfl, ?_⟩) hHeld ?_ ?_
                  rotate_left
                  · rintro w' ⟨s0, s1, s2, s3, s4, s5, s6, s7⟩
                    go_simp
                    with_reducible rfl
                  rotate_left
                  · simp only [Act.put, List.setIfInBounds_toArray, List.set_cons_zero, List.set_cons_succ, i64_w, i32_w]
                    rfl
                  refine pure_ (i := 6) (N := some 29) (v := ?_) (a' := ?_) (M.tf [7, 3, 4, 4]) rfl rfl (any_of HT_.out (by kernel_rfl)) (fun _ _ _ h => h) (Or.inl ⟨by rfl, ?_⟩) ?_ ?_
                  rotate_left
                  · intro w'
                    go_simp
                    with_reducible rfl
                  rotate_left
                  · simp only [Act.put, List.setIfInBounds_toArray, List.set_cons_zero, List.set_cons_succ, i64_w, i32_w]
                    rfl
                  refine pure_ (i := 7) (N := some 30) (v := ?_) (a' := ?_) (M.tf [8, 2, 4, 4]) rfl rfl (any_of HT_.out (by kernel_rfl)) (fun _ _ _ h => h) (Or.inl ⟨by rfl, ?_⟩) ?_ ?_
                  rotate_left
                  · intro w'
                    go_simp
                    with_reducible rfl
                  rotate_left
                  · simp only [Act.put, List.setIfInBounds_toArray, List.set_cons_zero, List.set_cons_succ, i64_w, i32_w]
                    rfl
                  refine take_ (i := 14) (N := some 37) (v := ?_) (a' := ?_) (M.tf [8, 2, 5, 3]) rfl rfl (take_ofW HT_.out HW_.out (by kernel_rfl)) (fun _ _ _ h => h) (Or.inl ⟨by rfl, ?_⟩) hHeld ?_ ?_
                  rotate_left
                  · rintro w' ⟨s0, s1, s2, s3, s4, s5, s6, s7⟩
                    go_simp
                    with_reducible rfl
                  rotate_left
                  · simp only [Act.put, List.setIfInBounds_toArray, List.set_cons_zero, List.set_cons_succ, i64_w, i32_w]
                    rfl
                  refine one_ (i := 8) (N := some 31) (M.tf [9, 1, 5, 3]) rfl rfl (one_of HT_.out (by kernel_rfl)) (by decide) (fun K hK => ?_)
                  refine goes_ Try.func24 (by kernel_rfl) rfl #[.int .i64 (wrap64 ((wrap64 (2 * ((rd_T34 l0 x5_1).f2))) + 1))] (by rfl) rfl rfl (by (try simp only [List.map_toArray, List.map_cons, List.map_nil]); first | done | rfl | (simp only [List.length_drop, List.length_take]; rfl)) ?_
                  with_reducible refine (pleachref04_PutNum.calls (wrap64 ((wrap64 (2 * ((rd_T34 l0 x5_1).f2))) + 1)) t132 _ A8.out).mono ?_
                  rintro e w14 ⟨rfl, hb⟩
                  refine ⟨_, rfl, ?_⟩
                  have n0_ := M.upS HB hb
                  clear HB
                  have HB := n0_
                  clear n0_
                  (try clear hb)
                  (try clear hb2)
                  (try clear hk)
                  (try clear hi)
                  refine hK.out _ _ ⟨(by first | exact ((HB.out.cell (World.block_lt_of_cell? w _ hw131_0)).trans hw131_0) | (have q_ := ((HB.out.cell (World.block_lt_of_cell? w _ hw131_0)).trans hw131_0); rw [← Nbq6.out] at q_; exact q_)), (by first | exact ((HB.out.cell (World.block_lt_of_cell? w _ hw131_1)).trans hw131_1) | (have q_ := ((HB.out.cell (World.block_lt_of_cell? w _ hw131_1)).trans hw131_1); rw [← Nbq6.out] at q_; exact q_)), (by first | exact ((HB.out.cell (World.block_lt_of_cell? w _ hw131_2)).trans hw131_2) | (have q_ := ((HB.out.cell (World.block_lt_of_cell? w _ hw131_2)).trans hw131_2); rw [← Nbq6.out] at q_; exact q_)), (by first | exact ((HB.out.cell (World.block_lt_of_cell? w _ hw131_3)).trans hw131_3) | (have q_ := ((HB.out.cell (World.block_lt_of_cell? w _ hw131_3)).trans hw131_3); rw [← Nbq6.out] at q_; exact q_)), (by first | exact ((HB.out.cell (World.block_lt_of_cell? w _ hw133_0)).trans hw133_0) | (have q_ := ((HB.out.cell (World.block_lt_of_cell? w _ hw133_0)).trans hw133_0); rw [← Nbq6.out] at q_; exact q_)), (by first | exact ((HB.out.cell (World.block_lt_of_cell? w _ hw133_1)).trans hw133_1) | (have q_ := ((HB.out.cell (World.block_lt_of_cell? w _ hw133_1)).trans hw133_1); rw [← Nbq6.out] at q_; exact q_)), (by first | exact ((HB.out.cell (World.block_lt_of_cell? w _ hw133_2)).trans hw133_2) | (have q_ := ((HB.out.cell (World.block_lt_of_cell? w _ hw133_2)).trans hw133_2); rw [← Nbq6.out] at q_; exact q_)), (by first | exact ((HB.out.cell (World.block_lt_of_cell? w _ hw133_3)).trans hw133_3) | (have q_ := ((HB.out.cell (World.block_lt_of_cell? w _ hw133_3)).trans hw133_3); rw [← Nbq6.out] at q_; exact q_))⟩ (fun hHeld => ?_)
                  clear hK K
                  refine norm_ (a' := ?_) ?_ ?_
                  rotate_left
                  · show Act.put _ (some 31) _ = _
                    simp only [Act.put, List.setIfInBounds_toArray, List.set_cons_zero, List.set_cons_succ, i64_w, i32_w]
                    rfl
                  refine pure_ (i := 9) (N := some 32) (v := ?_) (a' := ?_) (M.tf [15, 3]) rfl rfl (any_of HT_.out (by kernel_rfl)) (fun _ _ _ h => h) (Or.inl ⟨by rfl, ?_⟩) ?_ ?_
                  rotate_left
                  · intro w'
                    go_simp
                    with_reducible rfl
                  rotate_left
                  · simp only [Act.put, List.setIfInBounds_toArray, List.set_cons_zero, List.set_cons_succ, i64_w, i32_w]
                    rfl
                  refine one_ (i := 15) (N := some 38) (M.tf [16, 2]) rfl rfl (one_of HT_.out (by kernel_rfl)) (by decide) (fun K hK => ?_)
                  refine goes_ Try.func24 (by kernel_rfl) rfl #[.int .i64 ((rd_T34 l0 x5_1).f1)] (by rfl) rfl rfl (by (try simp only [List.map_toArray, List.map_cons, List.map_nil]); first | done | rfl | (simp only [List.length_drop, List.length_take]; rfl)) ?_
                  with_reducible refine (pleachref04_PutNum.calls ((rd_T34 l0 x5_1).f1) t134 _ A10.out).mono ?_
                  rintro e w15 ⟨rfl, hb⟩
                  refine ⟨_, rfl, ?_⟩
                  have n0_ := M.upS HB hb
                  clear HB
                  have HB := n0_
                  clear n0_
                  (try clear hb)
                  (try clear hb2)
                  (try clear hk)
                  (try clear hi)
                  refine hK.out _ _ ⟨(by first | exact ((HB.out.cell (World.block_lt_of_cell? w _ hw131_0)).trans hw131_0) | (have q_ := ((HB.out.cell (World.block_lt_of_cell? w _ hw131_0)).trans hw131_0); rw [← Nbq6.out] at q_; exact q_)), (by first | exact ((HB.out.cell (World.block_lt_of_cell? w _ hw131_1)).trans hw131_1) | (have q_ := ((HB.out.cell (World.block_lt_of_cell? w _ hw131_1)).trans hw131_1); rw [← Nbq6.out] at q_; exact q_)), (by first | exact ((HB.out.cell (World.block_lt_of_cell? w _ hw131_2)).trans hw131_2) | (have q_ := ((HB.out.cell (World.block_lt_of_cell? w _ hw131_2)).trans hw131_2); rw [← Nbq6.out] at q_; exact q_)), (by first | exact ((HB.out.cell (World.block_lt_of_cell? w _ hw131_3)).trans hw131_3) | (have q_ := ((HB.out.cell (World.block_lt_of_cell? w _ hw131_3)).trans hw131_3); rw [← Nbq6.out] at q_; exact q_)), (by first | exact ((HB.out.cell (World.block_lt_of_cell? w _ hw133_0)).trans hw133_0) | (have q_ := ((HB.out.cell (World.block_lt_of_cell? w _ hw133_0)).trans hw133_0); rw [← Nbq6.out] at q_; exact q_)), (by first | exact ((HB.out.cell (World.block_lt_of_cell? w _ hw133_1)).trans hw133_1) | (have q_ := ((HB.out.cell (World.block_lt_of_cell? w _ hw133_1)).trans hw133_1); rw [← Nbq6.out] at q_; exact q_)), (by first | exact ((HB.out.cell (World.block_lt_of_cell? w _ hw133_2)).trans hw133_2) | (have q_ := ((HB.out.cell (World.block_lt_of_cell? w _ hw133_2)).trans hw133_2); rw [← Nbq6.out] at q_; exact q_)), (by first | exact ((HB.out.cell (World.block_lt_of_cell? w _ hw133_3)).trans hw133_3) | (have q_ := ((HB.out.cell (World.block_lt_of_cell? w _ hw133_3)).trans hw133_3); rw [← Nbq6.out] at q_; exact q_))⟩ (fun hHeld => ?_)
                  clear hK K
                  refine norm_ (a' := ?_) ?_ ?_
                  rotate_left
                  · show Act.put _ (some 38) _ = _
                    simp only [Act.put, List.setIfInBounds_toArray, List.set_cons_zero, List.set_cons_succ, i64_w, i32_w]
                    rfl
                  refine pure_ (i := 16) (N := some 39) (v := ?_) (a' := ?_) (M.tf [17, 1]) rfl rfl (any_of HT_.out (by kernel_rfl)) (fun _ _ _ h => h) (Or.inl ⟨by rfl, ?_⟩) ?_ ?_
                  rotate_left
                  · intro w'
                    go_simp
                    with_reducible rfl
                  rotate_left
                  · simp only [Act.put, List.setIfInBounds_toArray, List.set_cons_zero, List.set_cons_succ, i64_w, i32_w]
                    rfl
                  refine pure_ (i := 17) (N := some 4) (v := ?_) (a' := ?_) (M.tf [18]) rfl rfl (any_of HT_.out (by kernel_rfl)) (fun _ _ _ h => h) (Or.inl ⟨by rfl, ?_⟩) ?_ ?_
                  rotate_left
                  · intro w'
                    go_simp
                    with_reducible rfl
                  rotate_left
                  · simp only [Act.put, List.setIfInBounds_toArray, List.set_cons_zero, List.set_cons_succ, i64_w, i32_w]
                    rfl
                  refine done_ (done_of HT_.out (by kernel_rfl)) ?_
                  try go_wp2
                  go_roundg k1
                  case measure => have := HK1.out; omega
                  case rel => exact ⟨((x4_1 ++ t132) ++ t134), (wrap64 (x5_1 + 1)), (by first | rfl | (simp; done) | (simp [*]; done) | (simp [M.isEmpty_bne]; done)), (by first | rfl | (simp; done) | (simp [*]; done) | (simp [M.isEmpty_bne]; done)), H', ⟨by have := HK1.out; omega⟩, ⟨M.up HB⟩⟩
                · rw [if_neg c11] at H
                  exact absurd H (by simp)
              · rw [if_neg c9] at H
                exact absurd H (by simp)
            · replace c7 := Bool.eq_false_iff.mpr c7
              subst c7
              have H1 : ((pleachref04_PutNum.f (wrap64 (2 * ((rd_T34 l0 x5_1).f2)))).bind fun t136 => (if x4_1.size + t136.size ≤ 9223372036854775807 then (if (x4_1 ++ t136).size + ((rd_T34 l0 x5_1).f3).size ≤ 9223372036854775807 then (pleachref11_Put_p.l0 k1 l0 ((x4_1 ++ t136) ++ ((rd_T34 l0 x5_1).f3)) (wrap64 (x5_1 + 1))) else (none)) else (none))) = some (r1, r2) := by rw [if_neg (show ¬ (false = true) by decide)] at H; exact H
              clear H
              have H := H1
              clear H1
              replace H := Option.bind_eq_some_iff.mp H
              obtain ⟨t136, A160, H⟩ := H
              replace H : (if x4_1.size + t136.size ≤ 9223372036854775807 then (if (x4_1 ++ t136).size + ((rd_T34 l0 x5_1).f3).size ≤ 9223372036854775807 then (pleachref11_Put_p.l0 k1 l0 ((x4_1 ++ t136) ++ ((rd_T34 l0 x5_1).f3)) (wrap64 (x5_1 + 1))) else (none)) else (none)) = some (r1, r2) := H
              have A16 := Aside0.mk A160
              clear A160
              by_cases c17 : x4_1.size + t136.size ≤ 9223372036854775807
              · rw [if_pos c17] at H
                have c17b0 := eq_true c17
                have c17b1 : decide (x4_1.size + t136.size ≤ 9223372036854775807) = true := decide_eq_true c17
                try have c17b2 : (9223372036854775807 < x4_1.size + t136.size) = False := eq_false (Nat.not_lt.2 c17)
                by_cases c18 : (x4_1 ++ t136).size + ((rd_T34 l0 x5_1).f3).size ≤ 9223372036854775807
                · rw [if_pos c18] at H
                  have c18b0 := eq_true c18
                  have c18b1 : decide ((x4_1 ++ t136).size + ((rd_T34 l0 x5_1).f3).size ≤ 9223372036854775807) = true := decide_eq_true c18
                  try have c18b2 : (9223372036854775807 < (x4_1 ++ t136).size + ((rd_T34 l0 x5_1).f3).size) = False := eq_false (Nat.not_lt.2 c18)
                  have c18m := c18
                  (try simp only [ByteArray.size_append] at c18m)
                  have c18b3 := eq_true c18m
                  have c18b4 := eq_false (Nat.not_lt.2 c18m)
                  have c18b5 := decide_eq_true c18m
                  have H' := Aside0.mk H
                  clear H
                  have p128 : 0 ≤ (x5_1 : Int) := of_decide_eq_true (by first | (with_reducible assumption) | assumption)
                  have q128 : x5_1 < (l0.length : Int) := of_decide_eq_true (by first | (with_reducible assumption) | assumption)
                  obtain ⟨ad128, e128, hx128_0, hx128_1, hx128_2, hx128_3⟩ := at_T34 HR0.out x5_1 p128 q128
                  (try rw [← Nbq6.out] at hx128_0)
                  cases e128
                  replace hx128_0 := (HB.out.cell (World.block_lt_of_cell? w _ hx128_0)).trans hx128_0
                  replace hx128_1 := (HB.out.cell (World.block_lt_of_cell? w _ hx128_1)).trans hx128_1
                  replace hx128_2 := (HB.out.cell (World.block_lt_of_cell? w _ hx128_2)).trans hx128_2
                  replace hx128_3 := (HB.out.cell (World.block_lt_of_cell? w _ hx128_3)).trans hx128_3
                  replace p128 := eq_true p128
                  replace q128 := eq_true q128
                  try go_wp2_with (first | ((with_reducible refine gate_callee (f := 15) rfl ?_); refine M.goes (some 16) Try.func15 #[.agg #[.bool false, .int .i64 ((rd_T34 l0 x5_1).f1), .int .i64 ((rd_T34 l0 x5_1).f2), .string ((rd_T34 l0 x5_1).f3)]] rfl ?_; (with_reducible refine (pleachref11_Is.calls false ((rd_T34 l0 x5_1).f1) ((rd_T34 l0 x5_1).f2) ((rd_T34 l0 x5_1).f3) true _ (by first | exact A4.out | (have q_ := A4.out; rw [← Nbq6.out] at q_; exact q_))).mono ?_); rintro e w19 ⟨rfl, hb⟩; refine ⟨_, rfl, ?_⟩; have n0_ := M.upS HB hb; clear HB; have HB := n0_; clear n0_; (try clear hb); have p130 : 0 ≤ (x5_1 : Int) := of_decide_eq_true (by first | (with_reducible assumption) | assumption); have q130 : x5_1 < (l0.length : Int) := of_decide_eq_true (by first | (with_reducible assumption) | assumption); obtain ⟨ad130, e130, hx130_0, hx130_1, hx130_2, hx130_3⟩ := at_T34 HR0.out x5_1 p130 q130; (try rw [← Nbq6.out] at hx130_0); obtain rfl : ad128 = ad130 := (by injection e130); replace hx130_0 := (HB.out.cell (World.block_lt_of_cell? w _ hx130_0)).trans hx130_0; replace hx130_1 := (HB.out.cell (World.block_lt_of_cell? w _ hx130_1)).trans hx130_1; replace hx130_2 := (HB.out.cell (World.block_lt_of_cell? w _ hx130_2)).trans hx130_2; replace hx130_3 := (HB.out.cell (World.block_lt_of_cell? w _ hx130_3)).trans hx130_3; replace p130 := eq_true p130; replace q130 := eq_true q130))
                  have n0_ := Aside0.mk (below_drew1 HB.out)
                  clear HB
                  have HB := n0_
                  clear n0_
                  have p135 : 0 ≤ (x5_1 : Int) := of_decide_eq_true (by first | (with_reducible assumption) | assumption)
                  have q135 : x5_1 < (l0.length : Int) := of_decide_eq_true (by first | (with_reducible assumption) | assumption)
                  obtain ⟨ad135, e135, hx135_0, hx135_1, hx135_2, hx135_3⟩ := at_T34 HR0.out x5_1 p135 q135
                  have hw135_3 := hx135_3
                  have hw135_2 := hx135_2
                  have hw135_1 := hx135_1
                  have hw135_0 := hx135_0
                  (try rw [← Nbq6.out] at hx135_0)
                  obtain rfl : ad128 = ad135 := (by injection e135)
                  replace hx135_0 := (HB.out.cell (World.block_lt_of_cell? w _ hx135_0)).trans hx135_0
                  replace hx135_1 := (HB.out.cell (World.block_lt_of_cell? w _ hx135_1)).trans hx135_1
                  replace hx135_2 := (HB.out.cell (World.block_lt_of_cell? w _ hx135_2)).trans hx135_2
                  replace hx135_3 := (HB.out.cell (World.block_lt_of_cell? w _ hx135_3)).trans hx135_3
                  replace p135 := eq_true p135
                  replace q135 := eq_true q135
                  have p137 : 0 ≤ (x5_1 : Int) := of_decide_eq_true (by first | (with_reducible assumption) | assumption)
                  have q137 : x5_1 < (l0.length : Int) := of_decide_eq_true (by first | (with_reducible assumption) | assumption)
                  obtain ⟨ad137, e137, hx137_0, hx137_1, hx137_2, hx137_3⟩ := at_T34 HR0.out x5_1 p137 q137
                  have hw137_3 := hx137_3
                  have hw137_2 := hx137_2
                  have hw137_1 := hx137_1
                  have hw137_0 := hx137_0
                  (try rw [← Nbq6.out] at hx137_0)
                  obtain rfl : ad128 = ad137 := (by injection e137)
                  replace hx137_0 := (HB.out.cell (World.block_lt_of_cell? w _ hx137_0)).trans hx137_0
                  replace hx137_1 := (HB.out.cell (World.block_lt_of_cell? w _ hx137_1)).trans hx137_1
                  replace hx137_2 := (HB.out.cell (World.block_lt_of_cell? w _ hx137_2)).trans hx137_2
                  replace hx137_3 := (HB.out.cell (World.block_lt_of_cell? w _ hx137_3)).trans hx137_3
                  replace p137 := eq_true p137
                  replace q137 := eq_true q137
                  refine start_ (n := 16) (S := fun w' => w'.cell? (ad128.add ((x5_1).toNat * 4)) = some (.bool (false)) ∧ w'.cell? ⟨(ad128.add ((x5_1).toNat * 4)).block, (ad128.add ((x5_1).toNat * 4)).off + 1, none⟩ = some (.int .i64 ((rd_T34 l0 x5_1).f1)) ∧ w'.cell? ⟨(ad128.add ((x5_1).toNat * 4)).block, (ad128.add ((x5_1).toNat * 4)).off + 2, none⟩ = some (.int .i64 ((rd_T34 l0 x5_1).f2)) ∧ w'.cell? ⟨(ad128.add ((x5_1).toNat * 4)).block, (ad128.add ((x5_1).toNat * 4)).off + 3, none⟩ = some (.string ((rd_T34 l0 x5_1).f3)) ∧ w'.cell? (ad128.add ((x5_1).toNat * 4)) = some (.bool (false)) ∧ w'.cell? ⟨(ad128.add ((x5_1).toNat * 4)).block, (ad128.add ((x5_1).toNat * 4)).off + 1, none⟩ = some (.int .i64 ((rd_T34 l0 x5_1).f1)) ∧ w'.cell? ⟨(ad128.add ((x5_1).toNat * 4)).block, (ad128.add ((x5_1).toNat * 4)).off + 2, none⟩ = some (.int .i64 ((rd_T34 l0 x5_1).f2)) ∧ w'.cell? ⟨(ad128.add ((x5_1).toNat * 4)).block, (ad128.add ((x5_1).toNat * 4)).off + 3, none⟩ = some (.string ((rd_T34 l0 x5_1).f3))) (ds := []) (M.tf [0, 16]) (by kernel_rfl) rfl rfl ⟨(by first | exact ((HB.out.cell (World.block_lt_of_cell? w _ hw135_0)).trans hw135_0) | (have q_ := ((HB.out.cell (World.block_lt_of_cell? w _ hw135_0)).trans hw135_0); rw [← Nbq6.out] at q_; exact q_)), (by first | exact ((HB.out.cell (World.block_lt_of_cell? w _ hw135_1)).trans hw135_1) | (have q_ := ((HB.out.cell (World.block_lt_of_cell? w _ hw135_1)).trans hw135_1); rw [← Nbq6.out] at q_; exact q_)), (by first | exact ((HB.out.cell (World.block_lt_of_cell? w _ hw135_2)).trans hw135_2) | (have q_ := ((HB.out.cell (World.block_lt_of_cell? w _ hw135_2)).trans hw135_2); rw [← Nbq6.out] at q_; exact q_)), (by first | exact ((HB.out.cell (World.block_lt_of_cell? w _ hw135_3)).trans hw135_3) | (have q_ := ((HB.out.cell (World.block_lt_of_cell? w _ hw135_3)).trans hw135_3); rw [← Nbq6.out] at q_; exact q_)), (by first | exact ((HB.out.cell (World.block_lt_of_cell? w _ hw137_0)).trans hw137_0) | (have q_ := ((HB.out.cell (World.block_lt_of_cell? w _ hw137_0)).trans hw137_0); rw [← Nbq6.out] at q_; exact q_)), (by first | exact ((HB.out.cell (World.block_lt_of_cell? w _ hw137_1)).trans hw137_1) | (have q_ := ((HB.out.cell (World.block_lt_of_cell? w _ hw137_1)).trans hw137_1); rw [← Nbq6.out] at q_; exact q_)), (by first | exact ((HB.out.cell (World.block_lt_of_cell? w _ hw137_2)).trans hw137_2) | (have q_ := ((HB.out.cell (World.block_lt_of_cell? w _ hw137_2)).trans hw137_2); rw [← Nbq6.out] at q_; exact q_)), (by first | exact ((HB.out.cell (World.block_lt_of_cell? w _ hw137_3)).trans hw137_3) | (have q_ := ((HB.out.cell (World.block_lt_of_cell? w _ hw137_3)).trans hw137_3); rw [← Nbq6.out] at q_; exact q_))⟩ (fun hHeld => ?_); refine with_tabW pleachref11_Put_p.tab9 pleachref11_Put_p.bits9 (fun HT_ HW_ => ?_)
                  generalize w19.drew = w20 at HB hx135_0 hx135_1 hx135_2 hx135_3 hx137_0 hx137_1 hx137_2 hx137_3 hHeld ⊢
                  refine pure_ (i := 0) (N := some 40) (v := ?_) (a' := ?_) (M.tf [1, 15]) rfl rfl (any_of HT_.out (by kernel_rfl)) (fun _ _ _ h => h) (Or.inl ⟨by rfl, ?_⟩) ?_ ?_
                  rotate_left
                  · intro w'
                    go_simp
                    with_reducible rfl
                  rotate_left
                  · simp only [Act.put, List.setIfInBounds_toArray, List.set_cons_zero, List.set_cons_succ, i64_w, i32_w]
                    rfl
                  refine pure_ (i := 1) (N := some 41) (v := ?_) (a' := ?_) (M.tf [2, 14]) rfl rfl (any_of HT_.out (by kernel_rfl)) (fun _ _ _ h => h) (Or.inl ⟨by rfl, ?_⟩) ?_ ?_
                  rotate_left
                  · intro w'
                    go_simp
                    with_reducible rfl
                  rotate_left
                  · simp only [Act.put, List.setIfInBounds_toArray, List.set_cons_zero, List.set_cons_succ, i64_w, i32_w]
                    rfl
                  refine pure_ (i := 2) (N := some 42) (v := ?_) (a' := ?_) (M.tf [3, 13]) rfl rfl (any_of HT_.out (by kernel_rfl)) (fun _ _ _ h => h) (Or.inl ⟨by rfl, ?_⟩) ?_ ?_
                  rotate_left
                  · intro w'
                    go_simp
                    with_reducible rfl
                  rotate_left
                  · simp only [Act.put, List.setIfInBounds_toArray, List.set_cons_zero, List.set_cons_succ, i64_w, i32_w]
                    rfl
                  refine pure_ (i := 3) (N := some 43) (v := ?_) (a' := ?_) (M.tf [4, 12]) rfl rfl (any_of HT_.out (by kernel_rfl)) (fun _ _ _ h => h) (Or.inl ⟨by rfl, ?_⟩) ?_ ?_
                  rotate_left
                  · intro w'
                    go_simp
                    with_reducible rfl
                  rotate_left
                  · simp only [Act.put, List.setIfInBounds_toArray, List.set_cons_zero, List.set_cons_succ, i64_w, i32_w]
                    rfl
                  refine pure_ (i := 4) (N := some 44) (v := ?_) (a' := ?_) (M.tf [5, 11]) rfl rfl (any_of HT_.out (by kernel_rfl)) (fun _ _ _ h => h) (Or.inl ⟨by rfl, ?_⟩) ?_ ?_
                  rotate_left
                  · intro w'
                    go_simp
                    with_reducible rfl
                  rotate_left
                  · simp only [Act.put, List.setIfInBounds_toArray, List.set_cons_zero, List.set_cons_succ, i64_w, i32_w]
                    rfl
                  refine pure_ (i := 9) (N := some 49) (v := ?_) (a' := ?_) (M.tf [5, 4, 1, 6]) rfl rfl (any_of HT_.out (by kernel_rfl)) (fun _ _ _ h => h) (Or.inl ⟨by rfl, ?_⟩) ?_ ?_
                  rotate_left
                  · intro w'
                    go_simp
                    with_reducible rfl
                  rotate_left
                  · simp only [Act.put, List.setIfInBounds_toArray, List.set_cons_zero, List.set_cons_succ, i64_w, i32_w]
                    rfl
                  refine pure_ (i := 10) (N := some 50) (v := ?_) (a' := ?_) (M.tf [5, 4, 2, 5]) rfl rfl (any_of HT_.out (by kernel_rfl)) (fun _ _ _ h => h) (Or.inl ⟨by rfl, ?_⟩) ?_ ?_
                  rotate_left
                  · intro w'
                    go_simp
                    with_reducible rfl
                  rotate_left
                  · simp only [Act.put, List.setIfInBounds_toArray, List.set_cons_zero, List.set_cons_succ, i64_w, i32_w]
                    rfl
                  refine pure_ (i := 11) (N := some 51) (v := ?_) (a' := ?_) (M.tf [5, 4, 3, 4]) rfl rfl (any_of HT_.out (by kernel_rfl)) (fun _ _ _ h => h) (Or.inl ⟨by rfl, ?_⟩) ?_ ?_
                  rotate_left
                  · intro w'
                    go_simp
                    with_reducible rfl
                  rotate_left
                  · simp only [Act.put, List.setIfInBounds_toArray, List.set_cons_zero, List.set_cons_succ, i64_w, i32_w]
                    rfl
                  refine pure_ (i := 12) (N := some 52) (v := ?_) (a' := ?_) (M.tf [5, 4, 4, 3]) rfl rfl (any_of HT_.out (by kernel_rfl)) (fun _ _ _ h => h) (Or.inl ⟨by rfl, ?_⟩) ?_ ?_
                  rotate_left
                  · intro w'
                    go_simp
                    with_reducible rfl
                  rotate_left
                  · simp only [Act.put, List.setIfInBounds_toArray, List.set_cons_zero, List.set_cons_succ, i64_w, i32_w]
                    rfl
                  refine take_ (i := 5) (N := some 45) (v := ?_) (a' := ?_) (M.tf [6, 3, 4, 3]) rfl rfl (take_ofW HT_.out HW_.out (by kernel_rfl)) (fun _ _ _ h => h) (Or.inl ⟨by rfl, ?_⟩) hHeld ?_ ?_
                  rotate_left
                  · rintro w' ⟨s0, s1, s2, s3, s4, s5, s6, s7⟩
                    go_simp
                    with_reducible rfl
                  rotate_left
                  · simp only [Act.put, List.setIfInBounds_toArray, List.set_cons_zero, List.set_cons_succ, i64_w, i32_w]
                    rfl
                  refine pure_ (i := 6) (N := some 46) (v := ?_) (a' := ?_) (M.tf [7, 2, 4, 3]) rfl rfl (any_of HT_.out (by kernel_rfl)) (fun _ _ _ h => h) (Or.inl ⟨by rfl, ?_⟩) ?_ ?_
                  rotate_left
                  · intro w'
                    go_simp
                    with_reducible rfl
                  rotate_left
                  · simp only [Act.put, List.setIfInBounds_toArray, List.set_cons_zero, List.set_cons_succ, i64_w, i32_w]
                    rfl
                  refine take_ (i := 13) (N := some 53) (v := ?_) (a' := ?_) (M.tf [7, 2, 5, 2]) rfl rfl (take_ofW HT_.out HW_.out (by kernel_rfl)) (fun _ _ _ h => h) (Or.inl ⟨by rfl, ?_⟩) hHeld ?_ ?_
                  rotate_left
                  · rintro w' ⟨s0, s1, s2, s3, s4, s5, s6, s7⟩
                    go_simp
                    with_reducible rfl
                  rotate_left
                  · simp only [Act.put, List.setIfInBounds_toArray, List.set_cons_zero, List.set_cons_succ, i64_w, i32_w]
                    rfl
                  refine one_ (i := 7) (N := some 47) (M.tf [8, 1, 5, 2]) rfl rfl (one_of HT_.out (by kernel_rfl)) (by decide) (fun K hK => ?_)
                  refine goes_ Try.func24 (by kernel_rfl) rfl #[.int .i64 (wrap64 (2 * ((rd_T34 l0 x5_1).f2)))] (by rfl) rfl rfl (by (try simp only [List.map_toArray, List.map_cons, List.map_nil]); first | done | rfl | (simp only [List.length_drop, List.length_take]; rfl)) ?_
                  with_reducible refine (pleachref04_PutNum.calls (wrap64 (2 * ((rd_T34 l0 x5_1).f2))) t136 _ A16.out).mono ?_
                  rintro e w21 ⟨rfl, hb⟩
                  refine ⟨_, rfl, ?_⟩
                  have n0_ := M.upS HB hb
                  clear HB
                  have HB := n0_
                  clear n0_
                  (try clear hb)
                  (try clear hb2)
                  (try clear hk)
                  (try clear hi)
                  refine hK.out _ _ ⟨(by first | exact ((HB.out.cell (World.block_lt_of_cell? w _ hw135_0)).trans hw135_0) | (have q_ := ((HB.out.cell (World.block_lt_of_cell? w _ hw135_0)).trans hw135_0); rw [← Nbq6.out] at q_; exact q_)), (by first | exact ((HB.out.cell (World.block_lt_of_cell? w _ hw135_1)).trans hw135_1) | (have q_ := ((HB.out.cell (World.block_lt_of_cell? w _ hw135_1)).trans hw135_1); rw [← Nbq6.out] at q_; exact q_)), (by first | exact ((HB.out.cell (World.block_lt_of_cell? w _ hw135_2)).trans hw135_2) | (have q_ := ((HB.out.cell (World.block_lt_of_cell? w _ hw135_2)).trans hw135_2); rw [← Nbq6.out] at q_; exact q_)), (by first | exact ((HB.out.cell (World.block_lt_of_cell? w _ hw135_3)).trans hw135_3) | (have q_ := ((HB.out.cell (World.block_lt_of_cell? w _ hw135_3)).trans hw135_3); rw [← Nbq6.out] at q_; exact q_)), (by first | exact ((HB.out.cell (World.block_lt_of_cell? w _ hw137_0)).trans hw137_0) | (have q_ := ((HB.out.cell (World.block_lt_of_cell? w _ hw137_0)).trans hw137_0); rw [← Nbq6.out] at q_; exact q_)), (by first | exact ((HB.out.cell (World.block_lt_of_cell? w _ hw137_1)).trans hw137_1) | (have q_ := ((HB.out.cell (World.block_lt_of_cell? w _ hw137_1)).trans hw137_1); rw [← Nbq6.out] at q_; exact q_)), (by first | exact ((HB.out.cell (World.block_lt_of_cell? w _ hw137_2)).trans hw137_2) | (have q_ := ((HB.out.cell (World.block_lt_of_cell? w _ hw137_2)).trans hw137_2); rw [← Nbq6.out] at q_; exact q_)), (by first | exact ((HB.out.cell (World.block_lt_of_cell? w _ hw137_3)).trans hw137_3) | (have q_ := ((HB.out.cell (World.block_lt_of_cell? w _ hw137_3)).trans hw137_3); rw [← Nbq6.out] at q_; exact q_))⟩ (fun hHeld => ?_)
                  clear hK K
                  refine norm_ (a' := ?_) ?_ ?_
                  rotate_left
                  · show Act.put _ (some 47) _ = _
                    simp only [Act.put, List.setIfInBounds_toArray, List.set_cons_zero, List.set_cons_succ, i64_w, i32_w]
                    rfl
                  refine pure_ (i := 8) (N := some 48) (v := ?_) (a' := ?_) (M.tf [14, 2]) rfl rfl (any_of HT_.out (by kernel_rfl)) (fun _ _ _ h => h) (Or.inl ⟨by rfl, ?_⟩) ?_ ?_
                  rotate_left
                  · intro w'
                    go_simp
                    with_reducible rfl
                  rotate_left
                  · simp only [Act.put, List.setIfInBounds_toArray, List.set_cons_zero, List.set_cons_succ, i64_w, i32_w]
                    rfl
                  refine pure_ (i := 14) (N := some 54) (v := ?_) (a' := ?_) (M.tf [15, 1]) rfl rfl (any_of HT_.out (by kernel_rfl)) (fun _ _ _ h => h) (Or.inl ⟨by rfl, ?_⟩) ?_ ?_
                  rotate_left
                  · intro w'
                    go_simp
                    with_reducible rfl
                  rotate_left
                  · simp only [Act.put, List.setIfInBounds_toArray, List.set_cons_zero, List.set_cons_succ, i64_w, i32_w]
                    rfl
                  refine pure_ (i := 15) (N := some 4) (v := ?_) (a' := ?_) (M.tf [16]) rfl rfl (any_of HT_.out (by kernel_rfl)) (fun _ _ _ h => h) (Or.inl ⟨by rfl, ?_⟩) ?_ ?_
                  rotate_left
                  · intro w'
                    go_simp
                    with_reducible rfl
                  rotate_left
                  · simp only [Act.put, List.setIfInBounds_toArray, List.set_cons_zero, List.set_cons_succ, i64_w, i32_w]
                    rfl
                  refine done_ (done_of HT_.out (by kernel_rfl)) ?_
                  try go_wp2
                  go_roundg k1
                  case measure => have := HK1.out; omega
                  case rel => exact ⟨((x4_1 ++ t136) ++ ((rd_T34 l0 x5_1).f3)), (wrap64 (x5_1 + 1)), (by first | rfl | (simp; done) | (simp [*]; done) | (simp [M.isEmpty_bne]; done)), (by first | rfl | (simp; done) | (simp [*]; done) | (simp [M.isEmpty_bne]; done)), H', ⟨by have := HK1.out; omega⟩, ⟨M.up HB⟩⟩
                · rw [if_neg c18] at H
                  exact absurd H (by simp)
              · rw [if_neg c17] at H
                exact absurd H (by simp)
          · replace c5 := Bool.eq_false_iff.mpr c5
            subst c5
            have H1 : (some ((⟨#[]⟩ : ByteArray), false)) = some (r1, r2) := by rw [if_neg (show ¬ (false = true) by decide)] at H; exact H
            clear H
            have H := H1
            clear H1
            simp only [Option.some.injEq, Prod.mk.injEq] at H
            obtain ⟨rfl, rfl⟩ := H
            have p128 : 0 ≤ (x5_1 : Int) := of_decide_eq_true (by first | (with_reducible assumption) | assumption)
            have q128 : x5_1 < (l0.length : Int) := of_decide_eq_true (by first | (with_reducible assumption) | assumption)
            obtain ⟨ad128, e128, hx128_0, hx128_1, hx128_2, hx128_3⟩ := at_T34 HR0.out x5_1 p128 q128
            cases e128
            replace hx128_0 := (HB.out.cell (World.block_lt_of_cell? w _ hx128_0)).trans hx128_0
            replace hx128_1 := (HB.out.cell (World.block_lt_of_cell? w _ hx128_1)).trans hx128_1
            replace hx128_2 := (HB.out.cell (World.block_lt_of_cell? w _ hx128_2)).trans hx128_2
            replace hx128_3 := (HB.out.cell (World.block_lt_of_cell? w _ hx128_3)).trans hx128_3
            replace p128 := eq_true p128
            replace q128 := eq_true q128
            go_wp2_with (first | ((with_reducible refine gate_callee (f := 15) rfl ?_); refine M.goes (some 16) Try.func15 #[.agg #[.bool ((rd_T34 l0 x5_1).f0), .int .i64 ((rd_T34 l0 x5_1).f1), .int .i64 ((rd_T34 l0 x5_1).f2), .string ((rd_T34 l0 x5_1).f3)]] rfl ?_; (with_reducible refine (pleachref11_Is.calls ((rd_T34 l0 x5_1).f0) ((rd_T34 l0 x5_1).f1) ((rd_T34 l0 x5_1).f2) ((rd_T34 l0 x5_1).f3) false _ A4.out).mono ?_); rintro e w22 ⟨rfl, hb⟩; refine ⟨_, rfl, ?_⟩; have n0_ := M.upS HB hb; clear HB; have HB := n0_; clear n0_; (try clear hb)))
            go_ret2
            exact M.fin (M.up HB)
        · rw [if_neg c3] at H
          exact absurd H (by simp)
      · rw [if_neg c2] at H
        have c2b0 : decide (x5_1 < (l0.length : Int)) = false := decide_eq_false c2
        clear c2
        simp only [Option.some.injEq, Prod.mk.injEq] at H
        obtain ⟨rfl, rfl⟩ := H
        go_wp2
        go_ret2
        exact M.fin (M.up HB)

-- this session's own plain form
def pleachref11_Put.pc (x : S34) : M.Pc := (x.f0, x.f1, x.f2, x.f3)
def pleachref11_Put.f (l : List S34) : Option (ByteArray × Bool) :=
  if l.length ≤ 1000000000 then some (match M.dput (l.map pleachref11_Put.pc) with | some b => (M.sb b, true) | none => (⟨#[]⟩, false)) else none
theorem pleachref11_Put.loop (l : List S34) (hc : l.length ≤ 1000000000) (d : Nat) : ∀ (i : Nat) (acc : ByteArray), i + d = l.length → acc.size + M.psum ((l.drop i).map pleachref11_Put.pc) ≤ 9223372036854775000 →
    pleachref11_Put_p.l0 (d + 1) l acc (i : Int) = some (match M.dput ((l.drop i).map pleachref11_Put.pc) with | some b => (acc ++ M.sb b, true) | none => (⟨#[]⟩, false)) := by
  induction d with
  | zero =>
    intro i acc hi _
    rw [pleachref11_Put_p.l0, if_neg (by omega), List.drop_of_length_le (by omega)]
    rw [List.map_nil, M.dput_nil]
    simp only
    rw [show acc ++ M.sb [] = acc from M.bs_inj (by rw [M.bs_append, M.bs_sb, List.append_nil])]
  | succ d ih =>
    intro i acc hi hz
    have hlt : i < l.length := by omega
    have hrd : rd_T34 l (i : Int) = l[i] := by simp [rd_T34, List.getD, hlt]
    rw [pleachref11_Put_p.l0, if_pos (by omega), if_pos (by omega), hrd]
    rw [List.drop_eq_getElem_cons hlt, List.map_cons] at hz ⊢
    have ih := ih (i + 1)
    rw [show ((i + 1 : Nat) : Int) = (i : Int) + 1 from by omega] at ih
    rw [M.wrap64_id (i := (i : Int) + 1) (by omega) (by omega)]
    generalize l[i] = x at hz ⊢
    obtain ⟨c, a, n, o⟩ := x
    have hps : M.psum (pleachref11_Put.pc ⟨c, a, n, o⟩ :: (l.drop (i + 1)).map pleachref11_Put.pc) = min o.size 65536 + 40 + M.psum ((l.drop (i + 1)).map pleachref11_Put.pc) := rfl
    rw [hps] at hz
    show (pleachref11_Is.f c a n o).bind _ = _
    rw [pleachref11_Is.f, Option.bind_some]
    by_cases hp : M.pok c a n o = true
    · have hk : M.pk (pleachref11_Put.pc ⟨c, a, n, o⟩) = true := hp
      have hl := M.pok_len hp
      rw [if_pos hp, M.dput_ok hk]
      have fin : ∀ A : ByteArray, A.size + M.psum ((l.drop (i + 1)).map pleachref11_Put.pc) ≤ 9223372036854775000 → A = acc ++ M.sb (M.pput (pleachref11_Put.pc ⟨c, a, n, o⟩)) →
          pleachref11_Put_p.l0 (d + 1) l A ((i : Int) + 1) = some (match (M.dput ((l.drop (i + 1)).map pleachref11_Put.pc)).map (M.pput (pleachref11_Put.pc ⟨c, a, n, o⟩) ++ ·) with | some b => (acc ++ M.sb b, true) | none => (⟨#[]⟩, false)) := by
        intro A hA he
        rw [ih A (by omega) hA]
        cases M.dput ((l.drop (i + 1)).map pleachref11_Put.pc) with
        | none => rfl
        | some b =>
          simp only [Option.map_some]
          rw [he]
          congr 2
          apply M.bs_inj
          simp only [M.bs_append, M.bs_sb, List.append_assoc]
      cases c with
      | true =>
        have hc2 := M.pok_copy hp
        have v1 := M.vb_le (2 * n + 1).toNat (by omega)
        have v2 := M.vb_le a.toNat (by omega)
        show (if true = true then _ else _) = _
        rw [if_pos rfl]
        show (pleachref04_PutNum.f (wrap64 (wrap64 (2 * n) + 1))).bind _ = _
        rw [M.wrap64_id (i := 2 * n) (by omega) (by omega), M.wrap64_id (i := 2 * n + 1) (by omega) (by omega), pleachref04_PutNum.f, if_pos (by omega), Option.bind_some]
        rw [if_pos (by rw [M.size_sb]; omega)]
        show (pleachref04_PutNum.f a).bind _ = _
        rw [pleachref04_PutNum.f, if_pos (by omega), Option.bind_some, if_pos (by rw [M.size_append, M.size_sb, M.size_sb]; omega)]
        refine fin _ (by simp only [M.size_append, M.size_sb]; omega) (M.bs_inj ?_)
        simp only [M.bs_append, M.bs_sb, M.pput, pleachref11_Put.pc, if_true, List.append_assoc]
      | false =>
        have hc2 := M.pok_own hp
        have v1 := M.vb_le (2 * n).toNat (by omega)
        show (if false = true then _ else _) = _
        rw [if_neg (show ¬ false = true by simp)]
        show (pleachref04_PutNum.f (wrap64 (2 * n))).bind _ = _
        rw [M.wrap64_id (i := 2 * n) (by omega) (by omega), pleachref04_PutNum.f, if_pos (by omega), Option.bind_some]
        rw [if_pos (by rw [M.size_sb]; omega)]
        rw [if_pos (by show _ + o.size ≤ _; rw [M.size_append, M.size_sb]; omega)]
        refine fin _ (by show (_ ++ o).size + _ ≤ _; simp only [M.size_append, M.size_sb]; omega) (M.bs_inj ?_)
        simp only [M.bs_append, M.bs_sb, M.pput, pleachref11_Put.pc, Bool.false_eq_true, if_false, List.append_assoc]
    · rw [if_neg hp, M.dput_no (p := pleachref11_Put.pc ⟨c, a, n, o⟩) hp]
theorem pleachref11_Put.nil_app (s : ByteArray) : (⟨#[]⟩ : ByteArray) ++ s = s := M.bs_inj (by rw [M.bs_append]; rfl)
theorem pleachref11_Put.ev (l : List S34) (r : ByteArray × Bool) (h : pleachref11_Put.f l = some r) : ∃ k, pleachref11_Put_p.f k l = some r := by
  unfold pleachref11_Put.f at h
  split at h
  case isFalse => cases h
  case isTrue hh =>
    refine ⟨l.length + 1, ?_⟩
    have := pleachref11_Put.loop l hh l.length 0 ⟨#[]⟩ (by omega) (by have q := M.psum_le (l.map pleachref11_Put.pc); rw [List.length_map] at q; show 0 + _ ≤ _; rw [Nat.zero_add, List.drop_zero]; omega)
    rw [List.drop_zero] at this
    unfold pleachref11_Put_p.f
    rw [show (0 : Int) = ((0 : Nat) : Int) from rfl, this, ← h]
    cases M.dput (l.map pleachref11_Put.pc) with
    | none => rfl
    | some b => simp only [pleachref11_Put.nil_app]
theorem pleachref11_Put.calls (A0 : Option Addr) (c0 : Nat) (l0 : List (S34)) (r1 : ByteArray) (r2 : Bool) (w : World) (hr0 : Kd.C k34 w A0 l0.length l0) (hc0 : l0.length ≤ c0) (h : pleachref11_Put.f l0 = some (r1, r2)) :
    Calls Try.prog 9 #[.slice A0 l0.length c0] w fun e w' => e = .returned (.tuple #[.string r1, .bool r2]) ∧ Below w.heap.size w w' := by
  obtain ⟨k, hk⟩ := pleachref11_Put.ev _ _ h
  exact pleachref11_Put_p.calls (k := k) (w := w) (h := hk) (hr0 := hr0) (hc0 := hc0)

/-! ### pleachlaw11_few_p: function 13 -/
def pleachlaw11_few_p.l0 : Nat → List (S34) → Int → Int → Option (Bool)
  | 0, _, _, _ => none
  | k + 1, x0, x3, x4 => if x4 < (x0.length : Int) then (if x4 ≤ 60 then (if 0 ≤ x4 then (pleachlaw11_few_p.l0 k x0 (wrap64 (x3 + (mn (((rd_T34 x0 x4).f3).size : Int) 10000))) (wrap64 (x4 + 1))) else (none)) else (if (x0.length : Int) ≤ 60 then (some (decide (x3 ≤ 10000))) else (some false))) else (if (x0.length : Int) ≤ 60 then (some (decide (x3 ≤ 10000))) else (some false))
def pleachlaw11_few_p.f (k : Nat) (l0 : List (S34)) : Option (Bool) := pleachlaw11_few_p.l0 k l0 0 0
theorem pleachlaw11_few_p.mono_l : ∀ k, (∀ y0 y1 y2, LeO (pleachlaw11_few_p.l0 k y0 y1 y2) (pleachlaw11_few_p.l0 (k + 1) y0 y1 y2))
  | 0 => fun _ _ _ r h => by simp [pleachlaw11_few_p.l0] at h
  | k + 1 => by
    have ih0 := pleachlaw11_few_p.mono_l k
    · intro y0 y1 y2
      unfold pleachlaw11_few_p.l0
      repeat' first
      | (with_reducible exact ih0 _ _ _)
      | (with_reducible exact LeO.refl _)
      | (with_reducible exact LeO.none _)
      | (with_reducible refine LeO.ite ?_ ?_)
      | (with_reducible refine LeO.bind ?_ (fun _ => ?_))
      | exact ih0 _ _ _
      | exact LeO.none _
      | refine LeO.ite ?_ ?_
      | refine LeO.bind ?_ (fun _ => ?_)
theorem pleachlaw11_few_p.mono : ∀ a0 k, LeO (pleachlaw11_few_p.f k a0) (pleachlaw11_few_p.f (k + 1) a0) := by
  intro a0 k
  have ih0 := pleachlaw11_few_p.mono_l k
  unfold pleachlaw11_few_p.f
  repeat' first
      | (with_reducible exact ih0 _ _ _)
      | (with_reducible exact LeO.refl _)
      | (with_reducible exact LeO.none _)
      | (with_reducible refine LeO.ite ?_ ?_)
      | (with_reducible refine LeO.bind ?_ (fun _ => ?_))
      | exact ih0 _ _ _
      | exact LeO.none _
      | refine LeO.ite ?_ ?_
      | refine LeO.bind ?_ (fun _ => ?_)
set_option maxHeartbeats 8000000 in
set_option maxRecDepth 100000 in
theorem pleachlaw11_few_p.calls (k : Nat) (A0 : Option Addr) (c0 : Nat) (l0 : List (S34)) (r : Bool) (w : World) (hr0 : Kd.C k34 w A0 l0.length l0) (hc0 : l0.length ≤ c0) (h : pleachlaw11_few_p.f k l0 = some r) :
    Calls Try.prog 13 #[.slice A0 l0.length c0] w fun e w' => e = .returned (.bool r) ∧ Below w.heap.size w w' := by
  have HR0 := Aside0.mk hr0
  have HC0 := Aside0.mk hc0
  clear hr0 hc0
  have HB := Aside0.mk (Below.refl w.heap.size w)
  have H : (pleachlaw11_few_p.l0 k l0 0 0) = some r := h
  clear h
  have H' := Aside0.mk H
  clear H
  go_enter Try.func13, Try.ntmps13
  go_wp2
  go_loopg [3, 4] k (fun kq v3 v4 w' => ∃ (x3_1 : Int) (x4_1 : Int), v3 = .int .i64 x3_1 ∧ v4 = .int .i64 x4_1 ∧ Aside0 (pleachlaw11_few_p.l0 kq l0 x3_1 x4_1 = some r) ∧ Aside0 (kq ≤ k) ∧ Aside0 (Below w.heap.size w w'))
  case atStart => exact ⟨(0), (0), (by first | rfl | (simp; done) | (simp [*]; done) | (simp [M.isEmpty_bne]; done)), (by first | rfl | (simp; done) | (simp [*]; done) | (simp [M.isEmpty_bne]; done)), H', ⟨Nat.le_refl _⟩, ⟨M.up HB⟩⟩
  case round =>
    clear H'
    try clear c1
    obtain ⟨x3_1, x4_1, rfl, rfl, HA, HK1, HB⟩ := hrel
    cases gk with
    | zero => exact absurd HA.out (by simp [pleachlaw11_few_p.l0])
    | succ k1 =>
      have H := HA.out
      clear HA
      simp only [pleachlaw11_few_p.l0] at H
      by_cases c2 : x4_1 < (l0.length : Int)
      · rw [if_pos c2] at H
        have c2b0 : decide (x4_1 < (l0.length : Int)) = true := decide_eq_true c2
        clear c2
        by_cases c3 : x4_1 ≤ 60
        · rw [if_pos c3] at H
          have c3b0 : decide (x4_1 ≤ 60) = true := decide_eq_true c3
          clear c3
          by_cases c4 : 0 ≤ x4_1
          · rw [if_pos c4] at H
            have c4b0 : decide (0 ≤ x4_1) = true := decide_eq_true c4
            clear c4
            obtain ⟨ji5, hji5⟩ : ∃ j_ : Int, (mn (((rd_T34 l0 x4_1).f3).size : Int) 10000) = j_ := ⟨_, rfl⟩
            replace H : (pleachlaw11_few_p.l0 k1 l0 (wrap64 (x3_1 + (ji5))) (wrap64 (x4_1 + 1))) = some r := by first | (rw [hji5] at H; exact H) | (simp only [hji5] at H ⊢; exact H)
            have hji5_ : (if 10000 < (((rd_T34 l0 x4_1).f3).size : Int) then 10000 else (((rd_T34 l0 x4_1).f3).size : Int)) = ji5 := hji5
            have H' := Aside0.mk H
            clear H
            have p138 : 0 ≤ (x4_1 : Int) := of_decide_eq_true (by first | (with_reducible assumption) | assumption)
            have q138 : x4_1 < (l0.length : Int) := of_decide_eq_true (by first | (with_reducible assumption) | assumption)
            obtain ⟨ad138, e138, hx138_0, hx138_1, hx138_2, hx138_3⟩ := at_T34 HR0.out x4_1 p138 q138
            cases e138
            replace hx138_0 := (HB.out.cell (World.block_lt_of_cell? w _ hx138_0)).trans hx138_0
            replace hx138_1 := (HB.out.cell (World.block_lt_of_cell? w _ hx138_1)).trans hx138_1
            replace hx138_2 := (HB.out.cell (World.block_lt_of_cell? w _ hx138_2)).trans hx138_2
            replace hx138_3 := (HB.out.cell (World.block_lt_of_cell? w _ hx138_3)).trans hx138_3
            replace p138 := eq_true p138
            replace q138 := eq_true q138
            go_wp2
            go_roundg k1
            case measure => have := HK1.out; omega
            case rel => exact ⟨(wrap64 (x3_1 + (ji5))), (wrap64 (x4_1 + 1)), (by first | rfl | (simp; done) | (simp only [← hji5] <;> (first | rfl | simp)) | (simp [*]; done)), (by first | rfl | (simp; done) | (simp [*]; done) | (simp [M.isEmpty_bne]; done)), H', ⟨by have := HK1.out; omega⟩, ⟨M.up HB⟩⟩
          · rw [if_neg c4] at H
            exact absurd H (by simp)
        · rw [if_neg c3] at H
          have c3b0 : decide (x4_1 ≤ 60) = false := decide_eq_false c3
          clear c3
          by_cases c6 : (l0.length : Int) ≤ 60
          · rw [if_pos c6] at H
            have c6b0 : decide ((l0.length : Int) ≤ 60) = true := decide_eq_true c6
            have c6b1 : decide (l0.length ≤ 60) = true := decide_eq_true (by omega)
            clear c6
            obtain rfl := Option.some.inj H
            go_wp2
            go_ret
            exact M.fin (M.up HB)
          · rw [if_neg c6] at H
            have c6b0 : decide ((l0.length : Int) ≤ 60) = false := decide_eq_false c6
            have c6b1 : decide (l0.length ≤ 60) = false := decide_eq_false (by omega)
            clear c6
            obtain rfl := Option.some.inj H
            go_wp2
            go_ret
            exact M.fin (M.up HB)
      · rw [if_neg c2] at H
        have c2b0 : decide (x4_1 < (l0.length : Int)) = false := decide_eq_false c2
        clear c2
        by_cases c7 : (l0.length : Int) ≤ 60
        · rw [if_pos c7] at H
          have c7b0 : decide ((l0.length : Int) ≤ 60) = true := decide_eq_true c7
          have c7b1 : decide (l0.length ≤ 60) = true := decide_eq_true (by omega)
          clear c7
          obtain rfl := Option.some.inj H
          go_wp2
          go_ret
          exact M.fin (M.up HB)
        · rw [if_neg c7] at H
          have c7b0 : decide ((l0.length : Int) ≤ 60) = false := decide_eq_false c7
          have c7b1 : decide (l0.length ≤ 60) = false := decide_eq_false (by omega)
          clear c7
          obtain rfl := Option.some.inj H
          go_wp2
          go_ret
          exact M.fin (M.up HB)

-- this session's own plain form
def pleachlaw11_few.sum_ : List S34 → Nat
  | [] => 0
  | x :: l => min x.f3.size 10000 + pleachlaw11_few.sum_ l
def pleachlaw11_few.f (l : List S34) : Option Bool := some (decide (l.length ≤ 60) && decide (pleachlaw11_few.sum_ (l.take 61) ≤ 10000))
theorem pleachlaw11_few.sum_app (a b : List S34) : pleachlaw11_few.sum_ (a ++ b) = pleachlaw11_few.sum_ a + pleachlaw11_few.sum_ b := by
  induction a with
  | nil => simp [pleachlaw11_few.sum_]
  | cons x a ih => rw [List.cons_append, pleachlaw11_few.sum_, pleachlaw11_few.sum_, ih, Nat.add_assoc]
theorem pleachlaw11_few.sum_le (l : List S34) : pleachlaw11_few.sum_ l ≤ 10000 * l.length := by
  induction l with
  | nil => simp [pleachlaw11_few.sum_]
  | cons x l ih => rw [pleachlaw11_few.sum_, List.length_cons]; omega
theorem pleachlaw11_few.loop (l : List S34) (d : Nat) : ∀ i : Nat, i + d = 61 →
    pleachlaw11_few_p.l0 (d + 1) l ((pleachlaw11_few.sum_ (l.take i) : Nat) : Int) (i : Int) = some (decide (l.length ≤ 60) && decide (pleachlaw11_few.sum_ (l.take 61) ≤ 10000)) := by
  have fin : ∀ i, l.take i = l.take 61 → (if (l.length : Int) ≤ 60 then some (decide (((pleachlaw11_few.sum_ (l.take i) : Nat) : Int) ≤ 10000)) else some false) = some (decide (l.length ≤ 60) && decide (pleachlaw11_few.sum_ (l.take 61) ≤ 10000)) := by
    intro i hi
    rw [hi]
    by_cases h : l.length ≤ 60
    · rw [if_pos (by omega), decide_eq_true h, Bool.true_and]
      congr 1
      apply decide_eq_decide.2; omega
    · rw [if_neg (by omega), decide_eq_false h, Bool.false_and]
  induction d with
  | zero =>
    intro i hi
    obtain rfl : i = 61 := by omega
    rw [pleachlaw11_few_p.l0]
    by_cases h : ((61 : Nat) : Int) < (l.length : Int)
    · rw [if_pos h, if_neg (by omega)]; exact fin 61 rfl
    · rw [if_neg h]; exact fin 61 rfl
  | succ d ih =>
    intro i hi
    rw [pleachlaw11_few_p.l0]
    by_cases h : (i : Int) < (l.length : Int)
    · have hlt : i < l.length := by omega
      have hrd : rd_T34 l (i : Int) = l[i] := by simp [rd_T34, List.getD, hlt]
      have hsum : pleachlaw11_few.sum_ (l.take (i + 1)) = pleachlaw11_few.sum_ (l.take i) + min l[i].f3.size 10000 := by
        rw [List.take_succ_eq_append_getElem hlt, pleachlaw11_few.sum_app]; rfl
      have hle := pleachlaw11_few.sum_le (l.take i)
      have hlen : (l.take i).length ≤ i := List.length_take_le _ _
      have hi60 : i ≤ 60 := by omega
      have hn := ih (i + 1) (by omega)
      rw [if_pos h, if_pos (by omega), if_pos (by omega), hrd]
      have e1 : wrap64 (((pleachlaw11_few.sum_ (l.take i) : Nat) : Int) + mn (l[i].f3.size : Int) 10000) = ((pleachlaw11_few.sum_ (l.take (i + 1)) : Nat) : Int) := by
        have : mn (l[i].f3.size : Int) 10000 = ((min l[i].f3.size 10000 : Nat) : Int) := by
          rcases Nat.le_total l[i].f3.size 10000 with z | z
          · rw [M.mn_le (by omega)]; omega
          · rw [M.mn_ge (by omega)]; omega
        rw [this, hsum, M.wrap64_id (by omega) (by omega)]; omega
      rw [e1, M.wrap64_id (i := (i : Int) + 1) (by omega) (by omega)]
      exact hn
    · rw [if_neg h]
      exact fin i (by rw [List.take_of_length_le (by omega), List.take_of_length_le (by omega)])
theorem pleachlaw11_few.ev (l : List S34) (r : Bool) (h : pleachlaw11_few.f l = some r) : ∃ k, pleachlaw11_few_p.f k l = some r := by
  refine ⟨61 + 1, ?_⟩
  unfold pleachlaw11_few_p.f
  rw [← h]
  exact pleachlaw11_few.loop l 61 0 rfl
theorem pleachlaw11_few.calls (A0 : Option Addr) (c0 : Nat) (l0 : List (S34)) (r : Bool) (w : World) (hr0 : Kd.C k34 w A0 l0.length l0) (hc0 : l0.length ≤ c0) (h : pleachlaw11_few.f l0 = some r) :
    Calls Try.prog 13 #[.slice A0 l0.length c0] w fun e w' => e = .returned (.bool r) ∧ Below w.heap.size w w' := by
  obtain ⟨k, hk⟩ := pleachlaw11_few.ev _ _ h
  exact pleachlaw11_few_p.calls (k := k) (w := w) (h := hk) (hr0 := hr0) (hc0 := hc0)

end Go.Proofs.Ytadpicphohobbaa.EDeltaPuts
