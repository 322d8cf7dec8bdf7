-- Written by this session's own program (wip/tools/ext.py) for this claim; Lean checks it.
import Derived.Test.YtbjcpdeinmlbhaaEFanFindsx0
namespace Go.Proofs.Ytbjcpdeinmlbhaa.EFanFinds
open Go.RowKit Go.Proofs.YtbjcpdeinmlbhaaW.PrintWords Go.Proofs.YtbjcpdeinmlbhaaW.PrintLast Go.Proofs.YtbjcpdeinmlbhaaW.PrintMore
attribute [local go_sem] M.run_leq M.run_gtr M.run_geq max2_int min2_int max_two min_two max_three min_three max_four min_four   -- for this text's walks alone
set_option linter.unusedVariables false
set_option linter.unusedSimpArgs false

/-! ### pleachplain_Bytes_p: function 17 -/
def pleachplain_Bytes_p.l0 : Nat → Int → List ByteArray → Int → Int → Option (Int)
  | 0, _, _, _, _ => none
  | k + 1, x3, x6, x7, x8 => if x8 < x7 then (if 0 ≤ x8 then (if x8 < (x6.length : Int) then (if (wrap64 (x3 + (mn ((rdOf ByteArray.empty x6 x8).size : Int) 1000000))) ≥ 1000000 then (some (wrap64 (x3 + (mn ((rdOf ByteArray.empty x6 x8).size : Int) 1000000)))) else (pleachplain_Bytes_p.l0 k (wrap64 (x3 + (mn ((rdOf ByteArray.empty x6 x8).size : Int) 1000000))) x6 x7 (wrap64 (x8 + 1)))) else (none)) else (none)) else (some x3)
def pleachplain_Bytes_p.f (k : Nat) (l0 : List ByteArray) : Option (Int) := pleachplain_Bytes_p.l0 k 0 l0 (l0.length : Int) 0
theorem pleachplain_Bytes_p.mono_l : ∀ k, (∀ y0 y1 y2 y3, LeO (pleachplain_Bytes_p.l0 k y0 y1 y2 y3) (pleachplain_Bytes_p.l0 (k + 1) y0 y1 y2 y3))
  | 0 => fun _ _ _ _ r h => by simp [pleachplain_Bytes_p.l0] at h
  | k + 1 => by
    have ih0 := pleachplain_Bytes_p.mono_l k
    · intro y0 y1 y2 y3
      unfold pleachplain_Bytes_p.l0
      repeat' first
      | (with_reducible exact ih0 _ _ _ _)
      | (with_reducible exact LeO.refl _)
      | (with_reducible exact LeO.none _)
      | (with_reducible refine LeO.ite ?_ ?_)
      | (with_reducible refine LeO.bind ?_ (fun _ => ?_))
      | exact ih0 _ _ _ _
      | exact LeO.none _
      | refine LeO.ite ?_ ?_
      | refine LeO.bind ?_ (fun _ => ?_)
theorem pleachplain_Bytes_p.mono : ∀ a0 k, LeO (pleachplain_Bytes_p.f k a0) (pleachplain_Bytes_p.f (k + 1) a0) := by
  intro a0 k
  have ih0 := pleachplain_Bytes_p.mono_l k
  unfold pleachplain_Bytes_p.f
  repeat' first
      | (with_reducible exact ih0 _ _ _ _)
      | (with_reducible exact LeO.refl _)
      | (with_reducible exact LeO.none _)
      | (with_reducible refine LeO.ite ?_ ?_)
      | (with_reducible refine LeO.bind ?_ (fun _ => ?_))
      | exact ih0 _ _ _ _
      | exact LeO.none _
      | refine LeO.ite ?_ ?_
      | refine LeO.bind ?_ (fun _ => ?_)
set_option maxHeartbeats 8000000 in
set_option maxRecDepth 100000 in
theorem pleachplain_Bytes_p.calls (k : Nat) (A0 : Option Addr) (c0 : Nat) (l0 : List ByteArray) (r : Int) (w : World) (hr0 : Kd.C Kd.string w A0 l0.length l0) (hc0 : l0.length ≤ c0) (h : pleachplain_Bytes_p.f k l0 = some r) :
    Calls Try.prog 17 #[.slice A0 l0.length c0] w fun e w' => e = .returned (.int .i64 r) ∧ Below w.heap.size w w' := by
  have HR0 := Aside0.mk hr0
  have HC0 := Aside0.mk hc0
  clear hr0 hc0
  have HB := Aside0.mk (Below.refl w.heap.size w)
  have H : (pleachplain_Bytes_p.l0 k 0 l0 (l0.length : Int) 0) = some r := h
  clear h
  have H' := Aside0.mk H
  clear H
  go_enter Try.func17, Try.ntmps17
  go_wp2
  go_loopg [3, 8] k (fun kq v3 v8 w' => ∃ (x3_1 : Int) (x8_1 : Int), v3 = .int .i64 x3_1 ∧ v8 = .int .i64 x8_1 ∧ Aside0 (pleachplain_Bytes_p.l0 kq x3_1 l0 (l0.length : Int) x8_1 = some r) ∧ Aside0 (kq ≤ k) ∧ Aside0 (Below w.heap.size w w'))
  case atStart => exact ⟨(0), (0), (by first | rfl | (simp; done) | (simp [*]; done) | (simp [M.isEmpty_bne]; done)), (by first | rfl | (simp; done) | (simp [*]; done) | (simp [M.isEmpty_bne]; done)), H', ⟨Nat.le_refl _⟩, ⟨M.up HB⟩⟩
  case round =>
    clear H'
    try clear c1
    obtain ⟨x3_1, x8_1, rfl, rfl, HA, HK1, HB⟩ := hrel
    cases gk with
    | zero => exact absurd HA.out (by simp [pleachplain_Bytes_p.l0])
    | succ k1 =>
      have H := HA.out
      clear HA
      simp only [pleachplain_Bytes_p.l0] at H
      by_cases c2 : x8_1 < (l0.length : Int)
      · rw [if_pos c2] at H
        have c2b0 : decide (x8_1 < (l0.length : Int)) = true := decide_eq_true c2
        clear c2
        by_cases c3 : 0 ≤ x8_1
        · rw [if_pos c3] at H
          have c3b0 : decide (0 ≤ x8_1) = true := decide_eq_true c3
          clear c3
          by_cases c4 : x8_1 < (l0.length : Int)
          · rw [if_pos c4] at H
            have c4b0 : decide (x8_1 < (l0.length : Int)) = true := decide_eq_true c4
            clear c4
            obtain ⟨ji5, hji5⟩ : ∃ j_ : Int, (mn ((rdOf ByteArray.empty l0 x8_1).size : Int) 1000000) = j_ := ⟨_, rfl⟩
            replace H : (if (wrap64 (x3_1 + (ji5))) ≥ 1000000 then (some (wrap64 (x3_1 + (ji5)))) else (pleachplain_Bytes_p.l0 k1 (wrap64 (x3_1 + (ji5))) l0 (l0.length : Int) (wrap64 (x8_1 + 1)))) = some r := by first | (rw [hji5] at H; exact H) | (simp only [hji5] at H ⊢; exact H)
            have hji5_ : (if 1000000 < ((rdOf ByteArray.empty l0 x8_1).size : Int) then 1000000 else ((rdOf ByteArray.empty l0 x8_1).size : Int)) = ji5 := hji5
            by_cases c6 : (wrap64 (x3_1 + (ji5))) ≥ 1000000
            · rw [if_pos c6] at H
              have c6b0 : decide (1000000 ≤ (wrap64 (x3_1 + (ji5)))) = true := decide_eq_true c6
              clear c6
              obtain rfl := Option.some.inj H
              have p101 : 0 ≤ (x8_1 : Int) := of_decide_eq_true (by first | (with_reducible assumption) | assumption)
              have q101 : x8_1 < (l0.length : Int) := of_decide_eq_true (by first | (with_reducible assumption) | assumption)
              obtain ⟨ad101, e101, hx101_0⟩ := Kd.at_string HR0.out x8_1 p101 q101
              cases e101
              replace hx101_0 := (HB.out.cell (World.block_lt_of_cell? w _ hx101_0)).trans hx101_0
              replace p101 := eq_true p101
              replace q101 := eq_true q101
              go_wp2
              go_ret
              exact ⟨by first | rfl | (simp [errW_none, errW_some] <;> rfl) | (simp only [← hji5]; first | rfl | (simp [errW_none, errW_some] <;> rfl)) | (simp [*, errW_none, errW_some] <;> rfl), M.up HB⟩
            · rw [if_neg c6] at H
              have c6b0 : decide (1000000 ≤ (wrap64 (x3_1 + (ji5)))) = false := decide_eq_false c6
              clear c6
              have H' := Aside0.mk H
              clear H
              have p101 : 0 ≤ (x8_1 : Int) := of_decide_eq_true (by first | (with_reducible assumption) | assumption)
              have q101 : x8_1 < (l0.length : Int) := of_decide_eq_true (by first | (with_reducible assumption) | assumption)
              obtain ⟨ad101, e101, hx101_0⟩ := Kd.at_string HR0.out x8_1 p101 q101
              cases e101
              replace hx101_0 := (HB.out.cell (World.block_lt_of_cell? w _ hx101_0)).trans hx101_0
              replace p101 := eq_true p101
              replace q101 := eq_true q101
              go_wp2
              go_roundg k1
              case measure => have := HK1.out; omega
              case rel => exact ⟨(wrap64 (x3_1 + (ji5))), (wrap64 (x8_1 + 1)), (by first | rfl | (simp; done) | (simp only [← hji5] <;> (first | rfl | simp)) | (simp [*]; done)), (by first | rfl | (simp; done) | (simp [*]; done) | (simp [M.isEmpty_bne]; done)), H', ⟨by have := HK1.out; omega⟩, ⟨M.up HB⟩⟩
          · rw [if_neg c4] at H
            exact absurd H (by simp)
        · rw [if_neg c3] at H
          exact absurd H (by simp)
      · rw [if_neg c2] at H
        have c2b0 : decide (x8_1 < (l0.length : Int)) = false := decide_eq_false c2
        clear c2
        obtain rfl := Option.some.inj H
        go_wp2
        go_ret
        exact M.fin (M.up HB)

-- this session's own plain form
def pleachplain_Bytes.f (l0 : List ByteArray) : Option Int := if l0.length ≤ 9223372036854775806 then some ((M.bytesN 0 l0 : Nat) : Int) else none
theorem pleachplain_Bytes.loop (l : List ByteArray) (hl : l.length ≤ 9223372036854775806) (d : Nat) : ∀ (i n : Nat), i + d = l.length → n < 1000000 →
    pleachplain_Bytes_p.l0 (d + 1) (n : Int) l (l.length : Int) (i : Int) = some ((M.bytesN n (l.drop i) : Nat) : Int) := by
  induction d with
  | zero =>
    intro i n hi hn
    rw [pleachplain_Bytes_p.l0, if_neg (by omega), List.drop_of_length_le (by omega)]; rfl
  | succ d ih =>
    intro i n hi hn
    have hlt : i < l.length := by omega
    have hrd : rdOf ByteArray.empty l (i : Int) = l[i] := by simp [rdOf, List.getD, hlt]
    have hm : mn ((l[i]).size : Int) 1000000 = ((min (l[i]).size 1000000 : Nat) : Int) := M.mn_min _ 1000000
    rw [pleachplain_Bytes_p.l0, if_pos (by omega), if_pos (by omega), if_pos (by omega), hrd, hm, List.drop_eq_getElem_cons hlt, M.bytesN, M.wrap64_id (i := (n : Int) + _) (by omega) (by omega)]
    by_cases h : 1000000 ≤ n + min (l[i]).size 1000000
    · rw [if_pos (by omega), if_pos h]; congr 1
    · rw [if_neg (by omega), if_neg h, M.wrap64_id (by omega) (by omega), show (i : Int) + 1 = ((i + 1 : Nat) : Int) from by omega, show (n : Int) + ((min (l[i]).size 1000000 : Nat) : Int) = ((n + min (l[i]).size 1000000 : Nat) : Int) from by omega]
      exact ih (i + 1) _ (by omega) (by omega)
theorem pleachplain_Bytes.ev (l : List ByteArray) (r : Int) (h : pleachplain_Bytes.f l = some r) : ∃ k, pleachplain_Bytes_p.f k l = some r := by
  unfold pleachplain_Bytes.f at h
  split at h
  case isFalse => cases h
  case isTrue hh =>
    refine ⟨l.length + 1, ?_⟩
    rw [← h]
    have := pleachplain_Bytes.loop l hh l.length 0 0 (by omega) (by decide)
    rw [List.drop_zero] at this
    exact this
theorem pleachplain_Bytes.calls (A0 : Option Addr) (c0 : Nat) (l0 : List ByteArray) (r : Int) (w : World) (hr0 : Kd.C Kd.string w A0 l0.length l0) (hc0 : l0.length ≤ c0) (h : pleachplain_Bytes.f l0 = some r) :
    Calls Try.prog 17 #[.slice A0 l0.length c0] w fun e w' => e = .returned (.int .i64 r) ∧ Below w.heap.size w w' := by
  obtain ⟨k, hk⟩ := pleachplain_Bytes.ev _ _ h
  exact pleachplain_Bytes_p.calls (k := k) (w := w) (h := hk) (hr0 := hr0) (hc0 := hc0)

/-! ### pleachlaw12_few: function 6 -/
def pleachlaw12_few.f (l0 : List ByteArray) : Option (Bool) := if (l0.length : Int) ≤ 100 then ((pleachplain_Bytes.f l0).bind fun t102 => (some (decide (t102 ≤ 5000)))) else (some false)
set_option maxHeartbeats 8000000 in
set_option maxRecDepth 100000 in
theorem pleachlaw12_few.calls (A0 : Option Addr) (c0 : Nat) (l0 : List ByteArray) (r : Bool) (w : World) (hr0 : Kd.C Kd.string w A0 l0.length l0) (hc0 : l0.length ≤ c0) (h : pleachlaw12_few.f l0 = some r) :
    Calls Try.prog 6 #[.slice A0 l0.length c0] w fun e w' => e = .returned (.bool r) ∧ Below w.heap.size w w' := by
  have HR0 := Aside0.mk hr0
  have HC0 := Aside0.mk hc0
  clear hr0 hc0
  have HB := Aside0.mk (Below.refl w.heap.size w)
  have H : (if (l0.length : Int) ≤ 100 then ((pleachplain_Bytes.f l0).bind fun t102 => (some (decide (t102 ≤ 5000)))) else (some false)) = some r := h
  clear h
  by_cases c2 : (l0.length : Int) ≤ 100
  · rw [if_pos c2] at H
    have c2b0 : decide ((l0.length : Int) ≤ 100) = true := decide_eq_true c2
    have c2b1 : decide (l0.length ≤ 100) = true := decide_eq_true (by omega)
    clear c2
    replace H := Option.bind_eq_some_iff.mp H
    obtain ⟨t102, A30, H⟩ := H
    replace H : (some (decide (t102 ≤ 5000))) = some r := H
    have A3 := Aside0.mk A30
    clear A30
    obtain rfl := Option.some.inj H
    go_enter Try.func6, Try.ntmps6
    go_wp2_with (first | (go_at_call 17; (with_reducible refine (pleachplain_Bytes.calls _ _ l0 t102 _ ?side1 ?side2 A3.out).mono ?_); (case side1 => repeat (first | exact HR0.out | (with_reducible refine Kd.C_alloc ?_ _) | (with_reducible refine Kd.C_drewN ?_ _) | (with_reducible refine Kd.C_drew ?_))); (case side2 => exact HC0.out); rintro e w4 ⟨rfl, hb⟩; have n0_ := M.upS HB hb; clear HB; have HB := n0_; clear n0_; (try clear hb); (try clear hb2); (try clear hk); (try clear hi)))
    go_ret
    exact M.fin (M.up HB)
  · rw [if_neg c2] at H
    have c2b0 : decide ((l0.length : Int) ≤ 100) = false := decide_eq_false c2
    have c2b1 : decide (l0.length ≤ 100) = false := decide_eq_false (by omega)
    clear c2
    obtain rfl := Option.some.inj H
    go_enter Try.func6, Try.ntmps6
    go_wp2
    go_ret
    exact M.fin (M.up HB)

/-! ### fan_Check_p: function 10 -/
def fan_Check_p.l0 : Nat → List ByteArray → List ByteArray → Int → Int → Option (Int)
  | 0, _, _, _, _ => none
  | k + 1, x0, x5, x6, x7 => if x7 < x6 then (if 0 ≤ x7 then (if x7 < (x5.length : Int) then (if ((rdOf ByteArray.empty x5 x7).size : Int) = 32 then (if x7 > 0 then (if 0 ≤ (wrap64 (x7 - 1)) then (if (wrap64 (x7 - 1)) < (x0.length : Int) then (if ((Op.bytesLess ((rdOf ByteArray.empty x0 (wrap64 (x7 - 1))).toList) ((rdOf ByteArray.empty x5 x7).toList)) = true) then (fan_Check_p.l0 k x0 x5 x6 (wrap64 (x7 + 1))) else (some 4)) else (none)) else (none)) else (fan_Check_p.l0 k x0 x5 x6 (wrap64 (x7 + 1)))) else (some 2)) else (none)) else (none)) else (some 0)
def fan_Check_p.f (k : Nat) (l0 : List ByteArray) : Option (Int) := fan_Check_p.l0 k l0 l0 (l0.length : Int) 0
theorem fan_Check_p.mono_l : ∀ k, (∀ y0 y1 y2 y3, LeO (fan_Check_p.l0 k y0 y1 y2 y3) (fan_Check_p.l0 (k + 1) y0 y1 y2 y3))
  | 0 => fun _ _ _ _ r h => by simp [fan_Check_p.l0] at h
  | k + 1 => by
    have ih0 := fan_Check_p.mono_l k
    · intro y0 y1 y2 y3
      unfold fan_Check_p.l0
      repeat' first
      | (with_reducible exact ih0 _ _ _ _)
      | (with_reducible exact LeO.refl _)
      | (with_reducible exact LeO.none _)
      | (with_reducible refine LeO.ite ?_ ?_)
      | (with_reducible refine LeO.bind ?_ (fun _ => ?_))
      | exact ih0 _ _ _ _
      | exact LeO.none _
      | refine LeO.ite ?_ ?_
      | refine LeO.bind ?_ (fun _ => ?_)
theorem fan_Check_p.mono : ∀ a0 k, LeO (fan_Check_p.f k a0) (fan_Check_p.f (k + 1) a0) := by
  intro a0 k
  have ih0 := fan_Check_p.mono_l k
  unfold fan_Check_p.f
  repeat' first
      | (with_reducible exact ih0 _ _ _ _)
      | (with_reducible exact LeO.refl _)
      | (with_reducible exact LeO.none _)
      | (with_reducible refine LeO.ite ?_ ?_)
      | (with_reducible refine LeO.bind ?_ (fun _ => ?_))
      | exact ih0 _ _ _ _
      | exact LeO.none _
      | refine LeO.ite ?_ ?_
      | refine LeO.bind ?_ (fun _ => ?_)
set_option maxHeartbeats 8000000 in
set_option maxRecDepth 100000 in
theorem fan_Check_p.calls (k : Nat) (A0 : Option Addr) (c0 : Nat) (l0 : List ByteArray) (r : Int) (w : World) (hr0 : Kd.C Kd.string w A0 l0.length l0) (hc0 : l0.length ≤ c0) (h : fan_Check_p.f k l0 = some r) :
    Calls Try.prog 10 #[.slice A0 l0.length c0] w fun e w' => e = .returned (.int .i64 r) ∧ Drawn0 w w' := by
  have HR0 := Aside0.mk hr0
  have HC0 := Aside0.mk hc0
  clear hr0 hc0
  have H : (fan_Check_p.l0 k l0 l0 (l0.length : Int) 0) = some r := h
  clear h
  have H' := Aside0.mk H
  clear H
  go_enter Try.func10, Try.ntmps10
  go_wp2
  go_loopg [7] k (fun kq v7 w' => ∃ (x7_1 : Int), v7 = .int .i64 x7_1 ∧ Aside0 (fan_Check_p.l0 kq l0 l0 (l0.length : Int) x7_1 = some r) ∧ Aside0 (kq ≤ k) ∧ Drawn0 w w')
  case atStart => exact ⟨(0), (by first | rfl | (simp; done) | (simp [*]; done) | (simp [M.isEmpty_bne]; done)), H', ⟨Nat.le_refl _⟩, by repeat (first | exact Drawn0.refl _ | apply Drawn0.step)⟩
  case round =>
    clear H'
    try clear c1
    obtain ⟨x7_1, rfl, HA, HK1, ⟨m1, rfl⟩⟩ := hrel
    cases gk with
    | zero => exact absurd HA.out (by simp [fan_Check_p.l0])
    | succ k1 =>
      have H := HA.out
      clear HA
      simp only [fan_Check_p.l0] at H
      by_cases c2 : x7_1 < (l0.length : Int)
      · rw [if_pos c2] at H
        have c2b0 : decide (x7_1 < (l0.length : Int)) = true := decide_eq_true c2
        clear c2
        by_cases c3 : 0 ≤ x7_1
        · rw [if_pos c3] at H
          have c3b0 : decide (0 ≤ x7_1) = true := decide_eq_true c3
          clear c3
          by_cases c4 : x7_1 < (l0.length : Int)
          · rw [if_pos c4] at H
            have c4b0 : decide (x7_1 < (l0.length : Int)) = true := decide_eq_true c4
            clear c4
            by_cases c5 : ((rdOf ByteArray.empty l0 x7_1).size : Int) = 32
            · rw [if_pos c5] at H
              have c5b0 : (((rdOf ByteArray.empty l0 x7_1).size : Int) == 32) = true := beq_iff_eq.mpr c5
              have c5b1 : (((rdOf ByteArray.empty l0 x7_1).size : Int) != 32) = false := bne_eq_false_iff_eq.mpr c5
              clear c5
              by_cases c6 : x7_1 > 0
              · rw [if_pos c6] at H
                have c6b0 : decide (0 < x7_1) = true := decide_eq_true c6
                clear c6
                obtain ⟨ji7, hji7⟩ : ∃ j_ : Int, (wrap64 (x7_1 - 1)) = j_ := ⟨_, rfl⟩
                replace H : (if 0 ≤ (ji7) then (if (ji7) < (l0.length : Int) then (if ((Op.bytesLess ((rdOf ByteArray.empty l0 (ji7)).toList) ((rdOf ByteArray.empty l0 x7_1).toList)) = true) then (fan_Check_p.l0 k1 l0 l0 (l0.length : Int) (wrap64 (x7_1 + 1))) else (some 4)) else (none)) else (none)) = some r := by first | (rw [hji7] at H; exact H) | (simp only [hji7] at H ⊢; exact H)
                have hji7w : (IntKind.i64.wrap (x7_1 - 1)) = ji7 := (i64_w _).trans hji7
                by_cases c8 : 0 ≤ (ji7)
                · rw [if_pos c8] at H
                  have c8b0 : decide (0 ≤ (ji7)) = true := decide_eq_true c8
                  clear c8
                  by_cases c9 : (ji7) < (l0.length : Int)
                  · rw [if_pos c9] at H
                    have c9b0 : decide ((ji7) < (l0.length : Int)) = true := decide_eq_true c9
                    clear c9
                    by_cases c10 : ((Op.bytesLess ((rdOf ByteArray.empty l0 (ji7)).toList) ((rdOf ByteArray.empty l0 x7_1).toList)) = true)
                    · rw [if_pos c10] at H
                      have c10b0 : (Op.bytesLess ((rdOf ByteArray.empty l0 (ji7)).toList) ((rdOf ByteArray.empty l0 x7_1).toList)) = true := c10
                      clear c10
                      have H' := Aside0.mk H
                      clear H
                      have p103 : 0 ≤ (x7_1 : Int) := of_decide_eq_true (by first | (with_reducible assumption) | assumption)
                      have q103 : x7_1 < (l0.length : Int) := of_decide_eq_true (by first | (with_reducible assumption) | assumption)
                      obtain ⟨ad103, e103, hx103_0⟩ := Kd.at_string HR0.out x7_1 p103 q103
                      cases e103
                      replace p103 := eq_true p103
                      replace q103 := eq_true q103
                      have p104 : 0 ≤ ((ji7) : Int) := of_decide_eq_true (by first | (with_reducible assumption) | assumption)
                      have q104 : (ji7) < (l0.length : Int) := of_decide_eq_true (by first | (with_reducible assumption) | assumption)
                      obtain ⟨ad104, e104, hx104_0⟩ := Kd.at_string HR0.out (ji7) p104 q104
                      obtain rfl : ad103 = ad104 := (by injection e104)
                      replace p104 := eq_true p104
                      replace q104 := eq_true q104
                      go_wp2
                      go_roundg k1
                      case measure => have := HK1.out; omega
                      case rel => exact ⟨(wrap64 (x7_1 + 1)), (by first | rfl | (simp; done) | (simp [*]; done) | (simp [M.isEmpty_bne]; done)), H', ⟨by have := HK1.out; omega⟩, by repeat (first | exact Drawn0.refl _ | apply Drawn0.step)⟩
                    · rw [if_neg c10] at H
                      have c10b0 : (Op.bytesLess ((rdOf ByteArray.empty l0 (ji7)).toList) ((rdOf ByteArray.empty l0 x7_1).toList)) = false := by simpa using c10
                      clear c10
                      obtain rfl := Option.some.inj H
                      have p103 : 0 ≤ (x7_1 : Int) := of_decide_eq_true (by first | (with_reducible assumption) | assumption)
                      have q103 : x7_1 < (l0.length : Int) := of_decide_eq_true (by first | (with_reducible assumption) | assumption)
                      obtain ⟨ad103, e103, hx103_0⟩ := Kd.at_string HR0.out x7_1 p103 q103
                      cases e103
                      replace p103 := eq_true p103
                      replace q103 := eq_true q103
                      have p104 : 0 ≤ ((ji7) : Int) := of_decide_eq_true (by first | (with_reducible assumption) | assumption)
                      have q104 : (ji7) < (l0.length : Int) := of_decide_eq_true (by first | (with_reducible assumption) | assumption)
                      obtain ⟨ad104, e104, hx104_0⟩ := Kd.at_string HR0.out (ji7) p104 q104
                      obtain rfl : ad103 = ad104 := (by injection e104)
                      replace p104 := eq_true p104
                      replace q104 := eq_true q104
                      go_wp2
                      go_ret
                      exact ⟨by first | rfl | (simp; done) | (simp only [← hji7] <;> (first | rfl | simp)) | (simp [*]; done), by repeat (first | exact Drawn0.refl _ | apply Drawn0.step)⟩
                  · rw [if_neg c9] at H
                    exact absurd H (by simp)
                · rw [if_neg c8] at H
                  exact absurd H (by simp)
              · rw [if_neg c6] at H
                have c6b0 : decide (0 < x7_1) = false := decide_eq_false c6
                clear c6
                have H' := Aside0.mk H
                clear H
                have p103 : 0 ≤ (x7_1 : Int) := of_decide_eq_true (by first | (with_reducible assumption) | assumption)
                have q103 : x7_1 < (l0.length : Int) := of_decide_eq_true (by first | (with_reducible assumption) | assumption)
                obtain ⟨ad103, e103, hx103_0⟩ := Kd.at_string HR0.out x7_1 p103 q103
                cases e103
                replace p103 := eq_true p103
                replace q103 := eq_true q103
                go_wp2
                go_roundg k1
                case measure => have := HK1.out; omega
                case rel => exact ⟨(wrap64 (x7_1 + 1)), (by first | rfl | (simp; done) | (simp [*]; done) | (simp [M.isEmpty_bne]; done)), H', ⟨by have := HK1.out; omega⟩, by repeat (first | exact Drawn0.refl _ | apply Drawn0.step)⟩
            · rw [if_neg c5] at H
              have c5b0 : (((rdOf ByteArray.empty l0 x7_1).size : Int) == 32) = false := beq_eq_false_iff_ne.mpr c5
              have c5b1 : (((rdOf ByteArray.empty l0 x7_1).size : Int) != 32) = true := bne_iff_ne.mpr c5
              obtain rfl := Option.some.inj H
              have p103 : 0 ≤ (x7_1 : Int) := of_decide_eq_true (by first | (with_reducible assumption) | assumption)
              have q103 : x7_1 < (l0.length : Int) := of_decide_eq_true (by first | (with_reducible assumption) | assumption)
              obtain ⟨ad103, e103, hx103_0⟩ := Kd.at_string HR0.out x7_1 p103 q103
              cases e103
              replace p103 := eq_true p103
              replace q103 := eq_true q103
              go_wp2
              go_ret
              exact ⟨by first | rfl | (simp; done) | (simp [*]; done), by repeat (first | exact Drawn0.refl _ | apply Drawn0.step)⟩
          · rw [if_neg c4] at H
            exact absurd H (by simp)
        · rw [if_neg c3] at H
          exact absurd H (by simp)
      · rw [if_neg c2] at H
        have c2b0 : decide (x7_1 < (l0.length : Int)) = false := decide_eq_false c2
        clear c2
        obtain rfl := Option.some.inj H
        go_wp2
        go_ret
        exact ⟨by first | rfl | (simp; done) | (simp [*]; done), by repeat (first | exact Drawn0.refl _ | apply Drawn0.step)⟩

-- this session's own plain form
def fan_Check.f (l0 : List ByteArray) : Option Int := if l0.length ≤ 4611686018427387903 then some (M.sumE none l0) else none
theorem fan_Check.loop (l : List ByteArray) (hl : l.length ≤ 4611686018427387903) (d : Nat) : ∀ (i : Nat), i + d = l.length →
    fan_Check_p.l0 (d + 1) l l (l.length : Int) (i : Int) = some (M.sumE (M.prv l i) (l.drop i)) := by
  induction d with
  | zero =>
    intro i hi
    rw [fan_Check_p.l0, if_neg (by omega), List.drop_of_length_le (by omega)]; rfl
  | succ d ih =>
    intro i hi
    have hlt : i < l.length := by omega
    have hrd : rdOf ByteArray.empty l (i : Int) = l[i] := by simp [rdOf, List.getD, hlt]
    have hn := ih (i + 1) (by omega)
    rw [M.prv_succ l hlt] at hn
    rw [fan_Check_p.l0, if_pos (by omega), if_pos (by omega), if_pos (by omega), hrd, List.drop_eq_getElem_cons hlt, M.sumE]
    rw [M.wrap64_id (i := (i : Int) + 1) (by omega) (by omega), show (i : Int) + 1 = ((i + 1 : Nat) : Int) from by omega, hn]
    by_cases hm : l[i].size = 32
    · rw [if_pos (by omega), if_pos hm]
      by_cases h0 : 0 < i
      · have hrd' : rdOf ByteArray.empty l ((i : Int) - 1) = l[i - 1] := by
          rw [show (i : Int) - 1 = ((i - 1 : Nat) : Int) from by omega]
          simp [rdOf, List.getD, show i - 1 < l.length by omega]
        rw [if_pos (by omega), M.wrap64_id (by omega) (by omega), if_pos (by omega), if_pos (by omega), hrd', M.prv_pos l hlt h0, M.follows]
        by_cases hc : M.lt l[i - 1] l[i]
        · have hc' : Op.bytesLess l[i - 1].toList l[i].toList = true := hc
          rw [if_pos hc', if_pos (decide_eq_true hc)]
        · have hc' : ¬ Op.bytesLess l[i - 1].toList l[i].toList = true := hc
          rw [if_neg hc', if_neg (by simp [hc])]
      · obtain rfl : i = 0 := by omega
        rw [if_neg (by omega)]
        rfl
    · rw [if_neg (by omega), if_neg hm]
theorem fan_Check.ev (l : List ByteArray) (r : Int) (h : fan_Check.f l = some r) : ∃ k, fan_Check_p.f k l = some r := by
  unfold fan_Check.f at h
  split at h
  case isFalse => cases h
  case isTrue hh =>
    refine ⟨l.length + 1, ?_⟩
    rw [← h]
    exact fan_Check.loop l hh l.length 0 (by omega)
theorem fan_Check.calls (A0 : Option Addr) (c0 : Nat) (l0 : List ByteArray) (r : Int) (w : World) (hr0 : Kd.C Kd.string w A0 l0.length l0) (hc0 : l0.length ≤ c0) (h : fan_Check.f l0 = some r) :
    Calls Try.prog 10 #[.slice A0 l0.length c0] w fun e w' => e = .returned (.int .i64 r) ∧ Drawn0 w w' := by
  obtain ⟨k, hk⟩ := fan_Check.ev _ _ h
  exact fan_Check_p.calls (k := k) (w := w) (h := hk) (hr0 := hr0) (hc0 := hc0)

/-! ### fan_part: function 19 -/
def fan_part.f (a0 : ByteArray) : Option (Int) := if 0 < (a0.size : Int) then (some ((wrap64 (bt a0 0)) / 16)) else (none)
set_option maxHeartbeats 8000000 in
set_option maxRecDepth 100000 in
theorem fan_part.calls (a0 : ByteArray) (r : Int) (w : World) (h : fan_part.f a0 = some r) :
    Calls Try.prog 19 #[.string a0] w fun e w' => e = .returned (.int .i64 r) ∧ Drawn0 w w' := by
  have H : (if 0 < (a0.size : Int) then (some ((wrap64 (bt a0 0)) / 16)) else (none)) = some r := h
  clear h
  by_cases c2 : 0 < (a0.size : Int)
  · rw [if_pos c2] at H
    have c2b0 : decide (0 < (a0.size : Int)) = true := decide_eq_true c2
    have c2b1 : decide (0 < a0.size) = true := decide_eq_true (by omega)
    clear c2
    obtain rfl := Option.some.inj H
    have p3 : 0 ≤ (0 : Int) := (by omega)
    have q3 : 0 < a0.size := (by have : (0 : Int) < (a0.size : Int) := of_decide_eq_true (by first | (with_reducible assumption) | assumption); omega)
    have hx3 : ∀ h : 0 < a0.size, ((a0[0]'h).toNat : Int) = bt a0 0 := bt_at a0 0
    clear p3
    have qi3 : (0 < (a0.size : Int)) = True := eq_true (of_decide_eq_true (by first | (with_reducible assumption) | assumption))
    replace q3 := eq_true q3
    go_enter Try.func19, Try.ntmps19
    go_wp2
    go_ret
    exact ⟨by first | rfl | (simp; done) | (simp [*]; done), by repeat (first | exact Drawn0.refl _ | apply Drawn0.step)⟩
  · rw [if_neg c2] at H
    exact absurd H (by simp)

/-! ### fan_Of: function 8 -/
def fan_Of.f (l : List ByteArray) : Option (List Int × Int) := if l.length ≤ 1000000000 then some (if M.sumE none l = 0 then (M.fans l 16, 0) else (List.replicate 16 0, M.sumE none l)) else none
theorem fan_Of.i26 : (Try.prog.info? 26).map (·.size) = some 16 := by kernel_rfl
theorem fan_Of.zeros : (#[.int .i64 0, .int .i64 0, .int .i64 0, .int .i64 0, .int .i64 0, .int .i64 0, .int .i64 0, .int .i64 0, .int .i64 0, .int .i64 0, .int .i64 0, .int .i64 0, .int .i64 0, .int .i64 0, .int .i64 0, .int .i64 0] : Array Value) = (nums .i64 (List.replicate 16 0)).toArray := rfl
theorem fan_Of.new_ (w : World) : M.arr (w.alloc (.cells #[.int .i64 0, .int .i64 0, .int .i64 0, .int .i64 0, .int .i64 0, .int .i64 0, .int .i64 0, .int .i64 0, .int .i64 0, .int .i64 0, .int .i64 0, .int .i64 0, .int .i64 0, .int .i64 0, .int .i64 0, .int .i64 0] 26)) w.heap.size 26 .i64 (List.replicate 16 0) := M.arr_new w 26 .i64 (List.replicate 16 0)
set_option maxHeartbeats 8000000 in
set_option maxRecDepth 100000 in
theorem fan_Of.bad (A0 : Option Addr) (c0 : Nat) (l0 : List ByteArray) (w : World) (hr0 : Kd.C Kd.string w A0 l0.length l0) (hc0 : l0.length ≤ c0) (hl : l0.length ≤ 1000000000) (hs : M.sumE none l0 ≠ 0) :
    Calls Try.prog 8 #[.slice A0 l0.length c0] w fun e w' => e = .returned (.tuple #[.agg (nums .i64 (List.replicate 16 0)).toArray, .int .i64 (M.sumE none l0)]) ∧ Below w.heap.size w w' := by
  have HC : Aside0 (fan_Check.f l0 = some (M.sumE none l0)) := ⟨by unfold fan_Check.f; rw [if_pos (by omega)]⟩
  generalize M.sumE none l0 = er at hs HC
  have t1 : (er != 0) = true := bne_iff_ne.2 hs
  have t2 : (er == 0) = false := beq_eq_false_iff_ne.2 hs
  have HR := Aside0.mk hr0
  clear hs hr0
  go_enter Try.func8, Try.ntmps8
  go_wp2_with (first | (go_at_call 10; refine (fan_Check.calls A0 c0 l0 er _ (Kd.C_below HR.out (below_alloc (Below.refl _ _) _)) hc0 HC.out).mono ?_; rintro e w1 ⟨rfl, ⟨nd, rfl⟩⟩; have HA := Aside0.mk (M.arr_drewN (fan_Of.new_ w) nd); have HB := Aside0.mk (pw_below_drewN (below_alloc (Below.refl w.heap.size w) (.cells #[.int .i64 0, .int .i64 0, .int .i64 0, .int .i64 0, .int .i64 0, .int .i64 0, .int .i64 0, .int .i64 0, .int .i64 0, .int .i64 0, .int .i64 0, .int .i64 0, .int .i64 0, .int .i64 0, .int .i64 0, .int .i64 0] 26)) nd)) | ((with_reducible refine gate_store (t := 26) (p := 2) (v := .tmp 13) rfl ?_); refine M.wp_arr_store rfl 26 _ _ rfl w.heap.size 26 .i64 (List.replicate 16 0) (List.replicate 16 0) rfl rfl HA.out rfl fan_Of.i26 ?_; intro w2 hA2 hF2 hB2 hz2; have HA2 := Aside0.mk hA2; have HB2 := Aside0.mk (hB2 _ _ (Nat.le_refl _) HB.out); clear hA2 hF2 hB2 hz2))
  have hload := M.arr_loadVar (P := Try.prog) HA2.out 26 _ Try.underlying26 rfl fan_Of.i26
  exact bodyPost_ret (v := .tuple #[.agg (nums .i64 (List.replicate 16 0)).toArray, .int .i64 er]) (by exact M.results_arr (fn := Try.f8) (t := 2) (u := 3) (ty := 26) (by rfl) _ (by rfl) hload) rfl ⟨rfl, HB2.out⟩
set_option maxHeartbeats 8000000 in
set_option maxRecDepth 100000 in
theorem fan_Of.good (A0 : Option Addr) (c0 : Nat) (l0 : List ByteArray) (w : World) (hr0 : Kd.C Kd.string w A0 l0.length l0) (hc0 : l0.length ≤ c0) (hl : l0.length ≤ 1000000000) (hs : M.sumE none l0 = 0) :
    Calls Try.prog 8 #[.slice A0 l0.length c0] w fun e w' => e = .returned (.tuple #[.agg (nums .i64 (M.fans l0 16)).toArray, .int .i64 0]) ∧ Below w.heap.size w w' := by
  have HC : Aside0 (fan_Check.f l0 = some 0) := ⟨by unfold fan_Check.f; rw [if_pos (by omega), hs]⟩
  have HS := Aside0.mk ((M.sum_iff l0).1 hs).1
  have HR := Aside0.mk hr0
  clear hs hr0
  go_enter Try.func8, Try.ntmps8
  go_wp2_with (first | (go_at_call 10; refine (fan_Check.calls A0 c0 l0 0 _ (Kd.C_below HR.out (below_alloc (Below.refl _ _) _)) hc0 HC.out).mono ?_; rintro e w1 ⟨rfl, ⟨nd, rfl⟩⟩; have HA := Aside0.mk (M.arr_drewN (fan_Of.new_ w) nd); have HB := Aside0.mk (pw_below_drewN (below_alloc (Below.refl w.heap.size w) (.cells #[.int .i64 0, .int .i64 0, .int .i64 0, .int .i64 0, .int .i64 0, .int .i64 0, .int .i64 0, .int .i64 0, .int .i64 0, .int .i64 0, .int .i64 0, .int .i64 0, .int .i64 0, .int .i64 0, .int .i64 0, .int .i64 0] 26)) nd)))
  go_loopw [17] (fun v17 wr => ∃ j : Nat, v17 = .int .i64 (j : Int) ∧ j ≤ l0.length ∧ Aside0 (M.arr wr w.heap.size 26 .i64 (List.replicate 16 0)) ∧ Aside0 (M.arr wr (w.heap.size + 1) 26 .i64 (M.fans (l0.take j) 0)) ∧ Aside0 (Below w.heap.size w wr)) (fun v17 _ => l0.length - (intOf v17).toNat)
  case atStart =>
    refine ⟨0, rfl, Nat.zero_le _, ⟨M.arr_alloc HA.out _⟩, ⟨?_⟩, ⟨below_alloc HB.out _⟩⟩
    rw [List.take_zero, M.fans_nil]
    have := fan_Of.new_ ((w.alloc (.cells #[.int .i64 0, .int .i64 0, .int .i64 0, .int .i64 0, .int .i64 0, .int .i64 0, .int .i64 0, .int .i64 0, .int .i64 0, .int .i64 0, .int .i64 0, .int .i64 0, .int .i64 0, .int .i64 0, .int .i64 0, .int .i64 0] 26)).drewN nd)
    simpa using this
  case round =>
    obtain ⟨j, rfl, hj, HA1, HA2, HBr⟩ := hrel
    by_cases hlt : j < l0.length
    · obtain ⟨ad, ead, hx⟩ := Kd.at_string HR.out (j : Int) (by omega) (by omega)
      have hrd : rdOf ByteArray.empty l0 (j : Int) = l0[j] := by simp [rdOf, List.getD, hlt]
      rw [hrd, Int.toNat_natCast] at hx
      have hsz := HS.out _ (List.getElem_mem hlt)
      have hpb := M.part_bt l0[j] (by omega)
      have hp := M.part_lt l0[j]
      have HP : Aside0 (fan_part.f l0[j] = some (M.part l0[j] : Int)) := ⟨by unfold fan_part.f; rw [if_pos (by omega), hpb.2, hpb.1]⟩
      have HN := Aside0.mk (M.fans_tally (l0.take j) l0[j])
      have hbd := M.fans_bd (l0.take j) 0 _ hp
      have htl : (l0.take j).length ≤ j := List.length_take_le _ _
      have htk := Aside0.mk (List.take_succ_eq_append_getElem hlt)
      replace hx := (HBr.out.cell (World.block_lt_of_cell? w _ hx)).trans hx
      have hc := M.arr_cell HA2.out (M.part l0[j]) (by rw [M.fans_len]; exact hp)
      have hf := M.arr_free HA2.out (M.part l0[j])
      clear hsz hpb hrd
      cases ead
      generalize M.part l0[j] = p at hp HP HN hbd hc hf
      generalize (M.fans (l0.take j) 0).getD p 0 = x at HN hbd hc
      have h0p : (0 : Int) ≤ (p : Int) := by omega
      have h1p : (p : Int) < 16 := by omega
      go_wp2_with (first | (go_at_call 19; refine (fan_part.calls l0[j] (p : Int) _ HP.out).mono ?_; rintro e w1 ⟨rfl, ⟨nd1, rfl⟩⟩))
      go_roundw
      case rel =>
        refine ⟨j + 1, by go_num, by omega, ⟨M.arr_far (M.arr_drewN HA1.out _) _ (by show w.heap.size ≠ w.heap.size + 1; omega) _⟩, ⟨?_⟩, ⟨(pw_below_drewN HBr.out _).setCell (by show w.heap.size ≤ w.heap.size + 1; omega) _⟩⟩
        rw [htk.out, ← HN.out]
        exact M.arr_set (M.arr_drewN HA2.out _) p (x + 1)
      case measure => simp [intOf]; omega
    · obtain rfl : j = l0.length := by omega
      rw [List.take_length] at HA2
      go_wp2
      go_loopw [8] (fun v8 wr2 => ∃ i : Nat, v8 = .int .i64 (i : Int) ∧ 1 ≤ i ∧ i ≤ 16 ∧ Aside0 (M.arr wr2 w.heap.size 26 .i64 (List.replicate 16 0)) ∧ Aside0 (M.arr wr2 (w.heap.size + 1) 26 .i64 (M.fans l0 i)) ∧ Aside0 (Below w.heap.size w wr2)) (fun v8 _ => 16 - (intOf v8).toNat)
      case atStart => exact ⟨1, rfl, Nat.le_refl _, by omega, HA1, ⟨by rw [M.fans_one]; exact HA2.out⟩, HBr⟩
      case round =>
        clear HA1 HA2 HBr
        obtain ⟨i, rfl, hi1, hi16, HA1, HA2, HBr⟩ := hrel
        by_cases hlt : i < 16
        · have hb1 := M.fans_bd l0 i i hlt
          have hb2 := M.fans_bd l0 i (i - 1) (by omega)
          have HN := Aside0.mk (M.fans_sum l0 i hi1 hlt)
          have hc1 := M.arr_cell HA2.out i (by rw [M.fans_len]; exact hlt)
          have hc2 := M.arr_cell HA2.out (i - 1) (by rw [M.fans_len]; omega)
          have hf1 := M.arr_free HA2.out i
          have h16 : (M.fans l0 i).length = 16 := M.fans_len _ _
          generalize (M.fans l0 i).getD i 0 = x at hb1 HN hc1
          generalize (M.fans l0 i).getD (i - 1) 0 = y at hb2 HN hc2
          obtain ⟨q, hq⟩ : ∃ q, q = i - 1 := ⟨_, rfl⟩
          rw [← hq] at hc2
          have w1 : IntKind.i64.wrap ((i : Int) - 1) = (q : Int) := by simp [IntKind.wrap, IntKind.bits, IntKind.signed]; omega
          have w2 : IntKind.i64.wrap (x + y) = x + y := by simp [IntKind.wrap, IntKind.bits, IntKind.signed]; omega
          have g1 : (0 : Int) ≤ (q : Int) := by omega
          have g2 : (q : Int) < 16 := by omega
          have g3 : (0 : Int) ≤ (i : Int) := by omega
          have g4 : (i : Int) < 16 := by omega
          clear h16 hq
          go_wp2
          go_region
          all_goals
            (try go_wp2)
            refine ⟨⟨i + 1, by go_num, by omega, by omega, ⟨M.arr_drew (M.arr_far HA1.out _ (by show w.heap.size ≠ w.heap.size + 1; omega) _)⟩, ⟨?_⟩, ⟨below_drew1 (HBr.out.setCell (by show w.heap.size ≤ w.heap.size + 1; omega) _)⟩⟩, by simp [intOf]; omega⟩
            rw [← HN.out]
            exact M.arr_drew (M.arr_set HA2.out i (x + y))
        · obtain rfl : i = 16 := by omega
          go_wp2_with (first | ((with_reducible refine gate_dst (N := 41) rfl ?_); refine M.wp_arr_load rfl 26 _ rfl (w.heap.size + 1) 26 .i64 (M.fans l0 16) rfl HA2.out _ Try.underlying26 rfl fan_Of.i26 ?_) | ((with_reducible refine gate_store (t := 26) (p := 2) (v := .tmp 41) rfl ?_); refine M.wp_arr_store rfl 26 _ _ rfl w.heap.size 26 .i64 (List.replicate 16 0) (M.fans l0 16) rfl rfl HA1.out (M.fans_len _ _) fan_Of.i26 ?_; intro w2 hA2 hF2 hB2 hz2; have HA3 := Aside0.mk hA2; have HB3 := Aside0.mk (hB2 _ _ (Nat.le_refl _) HBr.out); clear hA2 hF2 hB2 hz2))
          have hload := M.arr_loadVar (P := Try.prog) HA3.out 26 _ Try.underlying26 rfl (by rw [M.fans_len]; exact fan_Of.i26)
          exact bodyPost_ret (v := .tuple #[.agg (nums .i64 (M.fans l0 16)).toArray, .int .i64 0]) (by exact M.results_arr (fn := Try.f8) (t := 2) (u := 3) (ty := 26) (by rfl) _ (by rfl) hload) rfl ⟨rfl, HB3.out⟩
theorem fan_Of.calls (A0 : Option Addr) (c0 : Nat) (l0 : List ByteArray) (r1 : List Int) (r2 : Int) (w : World) (hr0 : Kd.C Kd.string w A0 l0.length l0) (hc0 : l0.length ≤ c0) (h : fan_Of.f l0 = some (r1, r2)) :
    Calls Try.prog 8 #[.slice A0 l0.length c0] w fun e w' => e = .returned (.tuple #[.agg (nums .i64 r1).toArray, .int .i64 r2]) ∧ Below w.heap.size w w' := by
  unfold fan_Of.f at h
  split at h
  case isFalse => cases h
  case isTrue hl =>
    have h := Option.some.inj h
    by_cases hs : M.sumE none l0 = 0
    · rw [if_pos hs] at h
      simp only [Prod.mk.injEq] at h
      obtain ⟨rfl, rfl⟩ := h
      exact fan_Of.good A0 c0 l0 w hr0 hc0 hl hs
    · rw [if_neg hs] at h
      simp only [Prod.mk.injEq] at h
      obtain ⟨rfl, rfl⟩ := h
      exact fan_Of.bad A0 c0 l0 w hr0 hc0 hl hs

/-! ### pleachplain_Noughts: function 18 -/
def pleachplain_Noughts.f (a0 : Int) : Option (ByteArray) := if 0 ≤ (mx a0 0) then (if (mx a0 0 : Int).toNat ≤ 281474976710656 then (some (strOfNums (List.replicate (mx a0 0 : Int).toNat 0))) else (none)) else (none)
set_option maxHeartbeats 8000000 in
set_option maxRecDepth 100000 in
theorem pleachplain_Noughts.calls (a0 : Int) (r : ByteArray) (w : World) (h : pleachplain_Noughts.f a0 = some r) :
    Calls Try.prog 18 #[.int .i64 a0] w fun e w' => e = .returned (.string r) ∧ Below w.heap.size w w' := by
  have HB := Aside0.mk (Below.refl w.heap.size w)
  have H : (if 0 ≤ (mx a0 0) then (if (mx a0 0 : Int).toNat ≤ 281474976710656 then (some (strOfNums (List.replicate (mx a0 0 : Int).toNat 0))) else (none)) else (none)) = some r := h
  clear h
  obtain ⟨ji2, hji2⟩ : ∃ j_ : Int, (mx a0 0) = j_ := ⟨_, rfl⟩
  replace H : (if 0 ≤ (ji2) then (if (ji2 : Int).toNat ≤ 281474976710656 then (some (strOfNums (List.replicate (ji2 : Int).toNat 0))) else (none)) else (none)) = some r := by first | (rw [hji2] at H; exact H) | (simp only [hji2] at H ⊢; exact H)
  (try (have hji2l : 0 ≤ ji2 := by (rw [← hji2]; unfold mx; (repeat' split) <;> omega)))
  (try (have hji2m : 0 ≤ ji2 := by omega))
  have hji2_ : (if a0 < 0 then 0 else a0) = ji2 := hji2
  by_cases c3 : 0 ≤ (ji2)
  · rw [if_pos c3] at H
    have c3b0 := eq_true c3
    have c3b1 : decide (0 ≤ (ji2)) = true := decide_eq_true c3
    clear c3
    by_cases c4 : (ji2 : Int).toNat ≤ 281474976710656
    · rw [if_pos c4] at H
      have c4b0 := eq_true c4
      have c4b1 : decide ((ji2 : Int).toNat ≤ 281474976710656) = true := decide_eq_true c4
      clear c4
      obtain ⟨y105, hy105⟩ : ∃ y_ : List Int, y_ = (List.replicate (ji2 : Int).toNat 0) := ⟨_, rfl⟩
      replace H : (some (strOfNums y105)) = some r := by first | (rw [hy105]; with_reducible exact H) | (have H2_ := (Option.bind_some _ _).symm.trans H; rw [hy105]; with_reducible exact H2_) | (have H2_ := (Option.bind_some _ _).symm.trans H; with_reducible exact H2_) | with_reducible exact H | (rw [hy105]; exact H) | exact H
      have Ny105 := Aside0.mk hy105
      clear hy105
      obtain rfl := Option.some.inj H
      go_enter Try.func18, Try.ntmps18
      go_wp2_with (first | ((with_reducible refine gate_dst (N := 5) rfl ?_); refine Kd.R_make (Kd.int .u8) _ 5 rfl (N := 5) rfl 46 _ _ rfl ji2 rfl rfl Try.underlying46 (.int .u8 0) 1 info5 rfl (by decide) (by omega) 0 (ok := fun _ => True) (okp := fun _ => True) rfl (fun _ hk => hk) trivial (of_decide_eq_true (by first | (with_reducible assumption) | assumption)) (Nat.le_trans (Nat.mul_le_mul_right _ (of_decide_eq_true (by first | (with_reducible assumption) | assumption) : ji2.toNat ≤ 281474976710656)) (by omega)) (Below.refl _ _) (Nat.le_refl _) ?_; intro v106 w5 ho6 hb hg_ hnew_; clear hg_ hnew_; (first | rw [← Ny105.out] at ho6 | (simp only [Int.reduceToNat] at ho6; rw [← Ny105.out] at ho6)); have n0_ := Aside0.mk (Kd.R_lower ho6 (below_size (M.up HB))); have n1_ := M.upS HB hb; clear HB; have HO107 := n0_; have HB := n1_; clear n0_ n1_; clear hb ho6; have hcv7 := own_string (P := Try.prog) Try.underlying46 Try.underlying5 Try.underlying9 (Kd.own_of_R HO107.out)))
      go_ret
      exact ⟨by first | rfl | (simp [errW_none, errW_some] <;> rfl) | (simp only [← hji2]; first | rfl | (simp [errW_none, errW_some] <;> rfl)) | (simp [*, errW_none, errW_some] <;> rfl), M.up HB⟩
    · rw [if_neg c4] at H
      exact absurd H (by simp)
  · rw [if_neg c3] at H
    exact absurd H (by simp)

/-! ### pleachlaw12_awake: function 7 -/
def pleachlaw12_awake.f : Option Bool := some true
def pleachlaw12_awake.t : ByteArray := (⟨#[31]⟩ : ByteArray) ++ strOfNums (List.replicate 31 0)
theorem pleachlaw12_awake.of_ : fan_Of.f [pleachlaw12_awake.t] = some (0 :: List.replicate 15 1, 0) := by
  have hs : pleachlaw12_awake.t.size = 32 := by decide +kernel
  have hp : M.part pleachlaw12_awake.t = 1 := by decide +kernel
  have hz : M.sumE none [pleachlaw12_awake.t] = 0 := by rw [M.sumE, if_pos hs, M.follows, if_pos rfl, M.sumE]
  have hf : M.fans [pleachlaw12_awake.t] 16 = 0 :: List.replicate 15 1 := by
    have hu : ∀ q : Nat, M.upto [pleachlaw12_awake.t] (q : Int) = if 1 ≤ q then 1 else 0 := by
      intro q
      unfold M.upto
      rw [List.countP_cons, List.countP_nil, hp]
      by_cases h : 1 ≤ q
      · rw [if_pos h, if_pos (by simp; omega)]
      · rw [if_neg h, if_neg (by simp; omega)]
    unfold M.fans
    have e : ((List.range 16).map fun (q : Nat) => if q < 16 then (M.upto [pleachlaw12_awake.t] (q : Int) : Int) else (M.inpart [pleachlaw12_awake.t] q : Int)) = (List.range 16).map fun (q : Nat) => if 1 ≤ q then (1 : Int) else 0 := by
      apply List.map_congr_left
      intro q hq
      rw [List.mem_range] at hq
      rw [if_pos hq, hu]
      split <;> rfl
    rw [e]; rfl
  unfold fan_Of.f
  rw [if_pos (by decide), if_pos hz, hf]
theorem pleachlaw12_awake.nought : pleachplain_Noughts.f 31 = some (strOfNums (List.replicate 31 0)) := by
  unfold pleachplain_Noughts.f
  rw [show mx 31 0 = 31 from by decide, if_pos (by decide), if_pos (by decide)]; rfl
set_option maxHeartbeats 8000000 in
set_option maxRecDepth 100000 in
theorem pleachlaw12_awake.walk (w : World) : Calls Try.prog 7 #[] w fun e w' => e = .returned (.bool true) ∧ Below w.heap.size w w' := by
  have HB := Aside0.mk (Below.refl w.heap.size w)
  have HN := Aside0.mk pleachlaw12_awake.nought
  have HO := Aside0.mk pleachlaw12_awake.of_
  have HT := Aside0.mk (show (⟨#[31]⟩ : ByteArray) ++ strOfNums (List.replicate 31 0) = pleachlaw12_awake.t from rfl)
  have hz : (⟨#[31]⟩ : ByteArray).size + (strOfNums (List.replicate 31 0)).size ≤ 9223372036854775807 := by decide +kernel
  generalize strOfNums (List.replicate 31 0) = nz at HN HT hz
  generalize pleachlaw12_awake.t = t at HO HT
  have c1 := eq_true hz
  have c2 := decide_eq_true hz
  have c3 : (9223372036854775807 < (⟨#[31]⟩ : ByteArray).size + nz.size) = False := eq_false (Nat.not_lt.2 hz)
  go_enter Try.func7, Try.ntmps7
  go_wp2_with (first | (go_at_call 18; refine (pleachplain_Noughts.calls 31 nz _ HN.out).mono ?_; rintro e w1 ⟨rfl, hb1⟩; have HB1 := Aside0.mk (below_step HB.out hb1); clear hb1) | ((with_reducible refine gate_dst (N := 6) rfl ?_); refine Kd.R_lit Kd.string _ 9 ?hg (N := 6) ?hd (xs := ([t] : List ByteArray)) (inner := [.string t]) (ok := fun _ => True) (okp := fun _ => True) ?hr ?hp (fun _ hk => hk) trivial (Below.refl _ _) (Nat.le_refl _) (by simp) ?_; (case hd => rfl); (case hg => rfl); (case hr => first | (rw [HT.out]; rfl) | (go_simp; rw [HT.out]; done) | (go_simp; rw [HT.out]; rfl)); (case hp => exact (Reps.one (show Kd.M Kd.string _ _ _ t [.string t] from rfl) (Reps.none _ _))); intro v2 w2 ho2 hb2 hg_ hnew_; clear hg_ hnew_; have HR2 := Aside0.mk ho2; have HB2 := Aside0.mk (below_step HB1.out hb2); clear ho2 hb2; obtain ⟨Ao, co, eo⟩ := Kd.R_slice HR2.out; subst eo) | (go_at_call 8; refine (fan_Of.calls Ao co [t] (0 :: List.replicate 15 1) 0 _ (Kd.R_reads' HR2.out).2.2 (Kd.R_reads' HR2.out).2.1 HO.out).mono ?_; rintro e w3 ⟨rfl, hb3⟩; have HB3 := Aside0.mk (below_step HB2.out hb3); clear hb3) | ((with_reducible refine gate_store (t := 26) (p := 1) (v := .tmp 8) rfl ?_); refine M.wp_arr_store rfl 26 _ _ rfl w3.heap.size 26 .i64 (List.replicate 16 0) (0 :: List.replicate 15 1) rfl rfl (fan_Of.new_ w3) rfl fan_Of.i26 ?_; intro w4 hA4 hF4 hB4 hz4; have HB4 := Aside0.mk (hB4 _ _ (below_size HB3.out) (below_alloc HB3.out _)); have hc0 := M.arr_cell hA4 0 (by decide); have hc1 := M.arr_cell hA4 1 (by decide); have hc15 := M.arr_cell hA4 15 (by decide); clear hA4 hF4 hB4 hz4))
  go_ret
  exact ⟨rfl, HB4.out⟩
theorem pleachlaw12_awake.calls (r : Bool) (w : World) (h : pleachlaw12_awake.f = some r) : Calls Try.prog 7 #[] w fun e w' => e = .returned (.bool r) ∧ Below w.heap.size w w' := by
  obtain rfl := Option.some.inj h
  exact pleachlaw12_awake.walk w

/-! ### pleachref12_Wrong_p: function 9 -/
def pleachref12_Wrong_p.l0 : Nat → List ByteArray → Int → Option (Int)
  | 0, _, _ => none
  | k + 1, x0, x3 => if x3 < (x0.length : Int) then (if 0 ≤ x3 then (if ((rdOf ByteArray.empty x0 x3).size : Int) = 32 then (if x3 > 0 then (if 0 ≤ (wrap64 (x3 - 1)) then (if (wrap64 (x3 - 1)) < (x0.length : Int) then (if ((Op.bytesLess ((rdOf ByteArray.empty x0 (wrap64 (x3 - 1))).toList) ((rdOf ByteArray.empty x0 x3).toList)) = true) then (pleachref12_Wrong_p.l0 k x0 (wrap64 (x3 + 1))) else (some 4)) else (none)) else (none)) else (pleachref12_Wrong_p.l0 k x0 (wrap64 (x3 + 1)))) else (some 2)) else (none)) else (some 0)
def pleachref12_Wrong_p.f (k : Nat) (l0 : List ByteArray) : Option (Int) := pleachref12_Wrong_p.l0 k l0 0
theorem pleachref12_Wrong_p.mono_l : ∀ k, (∀ y0 y1, LeO (pleachref12_Wrong_p.l0 k y0 y1) (pleachref12_Wrong_p.l0 (k + 1) y0 y1))
  | 0 => fun _ _ r h => by simp [pleachref12_Wrong_p.l0] at h
  | k + 1 => by
    have ih0 := pleachref12_Wrong_p.mono_l k
    · intro y0 y1
      unfold pleachref12_Wrong_p.l0
      repeat' first
      | (with_reducible exact ih0 _ _)
      | (with_reducible exact LeO.refl _)
      | (with_reducible exact LeO.none _)
      | (with_reducible refine LeO.ite ?_ ?_)
      | (with_reducible refine LeO.bind ?_ (fun _ => ?_))
      | exact ih0 _ _
      | exact LeO.none _
      | refine LeO.ite ?_ ?_
      | refine LeO.bind ?_ (fun _ => ?_)
theorem pleachref12_Wrong_p.mono : ∀ a0 k, LeO (pleachref12_Wrong_p.f k a0) (pleachref12_Wrong_p.f (k + 1) a0) := by
  intro a0 k
  have ih0 := pleachref12_Wrong_p.mono_l k
  unfold pleachref12_Wrong_p.f
  repeat' first
      | (with_reducible exact ih0 _ _)
      | (with_reducible exact LeO.refl _)
      | (with_reducible exact LeO.none _)
      | (with_reducible refine LeO.ite ?_ ?_)
      | (with_reducible refine LeO.bind ?_ (fun _ => ?_))
      | exact ih0 _ _
      | exact LeO.none _
      | refine LeO.ite ?_ ?_
      | refine LeO.bind ?_ (fun _ => ?_)
set_option maxHeartbeats 8000000 in
set_option maxRecDepth 100000 in
theorem pleachref12_Wrong_p.calls (k : Nat) (A0 : Option Addr) (c0 : Nat) (l0 : List ByteArray) (r : Int) (w : World) (hr0 : Kd.C Kd.string w A0 l0.length l0) (hc0 : l0.length ≤ c0) (h : pleachref12_Wrong_p.f k l0 = some r) :
    Calls Try.prog 9 #[.slice A0 l0.length c0] w fun e w' => e = .returned (.int .i64 r) ∧ Drawn0 w w' := by
  have HR0 := Aside0.mk hr0
  have HC0 := Aside0.mk hc0
  clear hr0 hc0
  have H : (pleachref12_Wrong_p.l0 k l0 0) = some r := h
  clear h
  have H' := Aside0.mk H
  clear H
  go_enter Try.func9, Try.ntmps9
  go_wp2
  repeat (go_quiet (fail); try go_wp2)
  go_loopg [3] k (fun kq v3 w' => ∃ (x3_1 : Int), v3 = .int .i64 x3_1 ∧ Aside0 (pleachref12_Wrong_p.l0 kq l0 x3_1 = some r) ∧ Aside0 (kq ≤ k) ∧ Drawn0 w w')
  case atStart => exact ⟨(0), (by first | rfl | (simp; done) | (simp [*]; done) | (simp [M.isEmpty_bne]; done)), H', ⟨Nat.le_refl _⟩, by repeat (first | exact Drawn0.refl _ | apply Drawn0.step)⟩
  case round =>
    clear H'
    obtain ⟨x3_1, rfl, HA, HK1, ⟨m1, rfl⟩⟩ := hrel
    cases gk with
    | zero => exact absurd HA.out (by simp [pleachref12_Wrong_p.l0])
    | succ k1 =>
      have H := HA.out
      clear HA
      simp only [pleachref12_Wrong_p.l0] at H
      by_cases c2 : x3_1 < (l0.length : Int)
      · rw [if_pos c2] at H
        have c2b0 : decide (x3_1 < (l0.length : Int)) = true := decide_eq_true c2
        clear c2
        by_cases c3 : 0 ≤ x3_1
        · rw [if_pos c3] at H
          have c3b0 : decide (0 ≤ x3_1) = true := decide_eq_true c3
          clear c3
          by_cases c4 : ((rdOf ByteArray.empty l0 x3_1).size : Int) = 32
          · rw [if_pos c4] at H
            have c4b0 : (((rdOf ByteArray.empty l0 x3_1).size : Int) == 32) = true := beq_iff_eq.mpr c4
            have c4b1 : (((rdOf ByteArray.empty l0 x3_1).size : Int) != 32) = false := bne_eq_false_iff_eq.mpr c4
            clear c4
            by_cases c5 : x3_1 > 0
            · rw [if_pos c5] at H
              have c5b0 : decide (0 < x3_1) = true := decide_eq_true c5
              clear c5
              obtain ⟨ji6, hji6⟩ : ∃ j_ : Int, (wrap64 (x3_1 - 1)) = j_ := ⟨_, rfl⟩
              replace H : (if 0 ≤ (ji6) then (if (ji6) < (l0.length : Int) then (if ((Op.bytesLess ((rdOf ByteArray.empty l0 (ji6)).toList) ((rdOf ByteArray.empty l0 x3_1).toList)) = true) then (pleachref12_Wrong_p.l0 k1 l0 (wrap64 (x3_1 + 1))) else (some 4)) else (none)) else (none)) = some r := by first | (rw [hji6] at H; exact H) | (simp only [hji6] at H ⊢; exact H)
              have hji6w : (IntKind.i64.wrap (x3_1 - 1)) = ji6 := (i64_w _).trans hji6
              by_cases c7 : 0 ≤ (ji6)
              · rw [if_pos c7] at H
                have c7b0 : decide (0 ≤ (ji6)) = true := decide_eq_true c7
                clear c7
                by_cases c8 : (ji6) < (l0.length : Int)
                · rw [if_pos c8] at H
                  have c8b0 : decide ((ji6) < (l0.length : Int)) = true := decide_eq_true c8
                  clear c8
                  by_cases c9 : ((Op.bytesLess ((rdOf ByteArray.empty l0 (ji6)).toList) ((rdOf ByteArray.empty l0 x3_1).toList)) = true)
                  · rw [if_pos c9] at H
                    have c9b0 : (Op.bytesLess ((rdOf ByteArray.empty l0 (ji6)).toList) ((rdOf ByteArray.empty l0 x3_1).toList)) = true := c9
                    clear c9
                    have H' := Aside0.mk H
                    clear H
                    have p108 : 0 ≤ (x3_1 : Int) := of_decide_eq_true (by first | (with_reducible assumption) | assumption)
                    have q108 : x3_1 < (l0.length : Int) := of_decide_eq_true (by first | (with_reducible assumption) | assumption)
                    obtain ⟨ad108, e108, hx108_0⟩ := Kd.at_string HR0.out x3_1 p108 q108
                    cases e108
                    replace p108 := eq_true p108
                    replace q108 := eq_true q108
                    have p109 : 0 ≤ (x3_1 : Int) := of_decide_eq_true (by first | (with_reducible assumption) | assumption)
                    have q109 : x3_1 < (l0.length : Int) := of_decide_eq_true (by first | (with_reducible assumption) | assumption)
                    obtain ⟨ad109, e109, hx109_0⟩ := Kd.at_string HR0.out x3_1 p109 q109
                    obtain rfl : ad108 = ad109 := (by injection e109)
                    replace p109 := eq_true p109
                    replace q109 := eq_true q109
                    have p110 : 0 ≤ ((ji6) : Int) := of_decide_eq_true (by first | (with_reducible assumption) | assumption)
                    have q110 : (ji6) < (l0.length : Int) := of_decide_eq_true (by first | (with_reducible assumption) | assumption)
                    obtain ⟨ad110, e110, hx110_0⟩ := Kd.at_string HR0.out (ji6) p110 q110
                    obtain rfl : ad108 = ad110 := (by injection e110)
                    replace p110 := eq_true p110
                    replace q110 := eq_true q110
                    go_wp2
                    repeat (go_quiet (fail); try go_wp2)
                    go_roundg k1
                    case measure => have := HK1.out; omega
                    case rel => exact ⟨(wrap64 (x3_1 + 1)), (by first | rfl | (simp; done) | (simp [*]; done) | (simp [M.isEmpty_bne]; done)), H', ⟨by have := HK1.out; omega⟩, by repeat (first | exact Drawn0.refl _ | apply Drawn0.step)⟩
                  · rw [if_neg c9] at H
                    have c9b0 : (Op.bytesLess ((rdOf ByteArray.empty l0 (ji6)).toList) ((rdOf ByteArray.empty l0 x3_1).toList)) = false := by simpa using c9
                    clear c9
                    obtain rfl := Option.some.inj H
                    have p108 : 0 ≤ (x3_1 : Int) := of_decide_eq_true (by first | (with_reducible assumption) | assumption)
                    have q108 : x3_1 < (l0.length : Int) := of_decide_eq_true (by first | (with_reducible assumption) | assumption)
                    obtain ⟨ad108, e108, hx108_0⟩ := Kd.at_string HR0.out x3_1 p108 q108
                    cases e108
                    replace p108 := eq_true p108
                    replace q108 := eq_true q108
                    have p109 : 0 ≤ (x3_1 : Int) := of_decide_eq_true (by first | (with_reducible assumption) | assumption)
                    have q109 : x3_1 < (l0.length : Int) := of_decide_eq_true (by first | (with_reducible assumption) | assumption)
                    obtain ⟨ad109, e109, hx109_0⟩ := Kd.at_string HR0.out x3_1 p109 q109
                    obtain rfl : ad108 = ad109 := (by injection e109)
                    replace p109 := eq_true p109
                    replace q109 := eq_true q109
                    have p110 : 0 ≤ ((ji6) : Int) := of_decide_eq_true (by first | (with_reducible assumption) | assumption)
                    have q110 : (ji6) < (l0.length : Int) := of_decide_eq_true (by first | (with_reducible assumption) | assumption)
                    obtain ⟨ad110, e110, hx110_0⟩ := Kd.at_string HR0.out (ji6) p110 q110
                    obtain rfl : ad108 = ad110 := (by injection e110)
                    replace p110 := eq_true p110
                    replace q110 := eq_true q110
                    go_wp2
                    repeat (go_quiet (fail); try go_wp2)
                    go_ret
                    exact ⟨by first | rfl | (simp; done) | (simp only [← hji6] <;> (first | rfl | simp)) | (simp [*]; done), by repeat (first | exact Drawn0.refl _ | apply Drawn0.step)⟩
                · rw [if_neg c8] at H
                  exact absurd H (by simp)
              · rw [if_neg c7] at H
                exact absurd H (by simp)
            · rw [if_neg c5] at H
              have c5b0 : decide (0 < x3_1) = false := decide_eq_false c5
              clear c5
              have H' := Aside0.mk H
              clear H
              have p108 : 0 ≤ (x3_1 : Int) := of_decide_eq_true (by first | (with_reducible assumption) | assumption)
              have q108 : x3_1 < (l0.length : Int) := of_decide_eq_true (by first | (with_reducible assumption) | assumption)
              obtain ⟨ad108, e108, hx108_0⟩ := Kd.at_string HR0.out x3_1 p108 q108
              cases e108
              replace p108 := eq_true p108
              replace q108 := eq_true q108
              go_wp2
              repeat (go_quiet (fail); try go_wp2)
              go_roundg k1
              case measure => have := HK1.out; omega
              case rel => exact ⟨(wrap64 (x3_1 + 1)), (by first | rfl | (simp; done) | (simp [*]; done) | (simp [M.isEmpty_bne]; done)), H', ⟨by have := HK1.out; omega⟩, by repeat (first | exact Drawn0.refl _ | apply Drawn0.step)⟩
          · rw [if_neg c4] at H
            have c4b0 : (((rdOf ByteArray.empty l0 x3_1).size : Int) == 32) = false := beq_eq_false_iff_ne.mpr c4
            have c4b1 : (((rdOf ByteArray.empty l0 x3_1).size : Int) != 32) = true := bne_iff_ne.mpr c4
            obtain rfl := Option.some.inj H
            have p108 : 0 ≤ (x3_1 : Int) := of_decide_eq_true (by first | (with_reducible assumption) | assumption)
            have q108 : x3_1 < (l0.length : Int) := of_decide_eq_true (by first | (with_reducible assumption) | assumption)
            obtain ⟨ad108, e108, hx108_0⟩ := Kd.at_string HR0.out x3_1 p108 q108
            cases e108
            replace p108 := eq_true p108
            replace q108 := eq_true q108
            go_wp2
            repeat (go_quiet (fail); try go_wp2)
            go_ret
            exact ⟨by first | rfl | (simp; done) | (simp [*]; done), by repeat (first | exact Drawn0.refl _ | apply Drawn0.step)⟩
        · rw [if_neg c3] at H
          exact absurd H (by simp)
      · rw [if_neg c2] at H
        have c2b0 : decide (x3_1 < (l0.length : Int)) = false := decide_eq_false c2
        clear c2
        obtain rfl := Option.some.inj H
        go_wp2
        repeat (go_quiet (fail); try go_wp2)
        go_ret
        exact ⟨by first | rfl | (simp; done) | (simp [*]; done), by repeat (first | exact Drawn0.refl _ | apply Drawn0.step)⟩

-- this session's own plain form
def pleachref12_Wrong.f (l0 : List ByteArray) : Option Int := if l0.length ≤ 4611686018427387903 then some (M.sumE none l0) else none
theorem pleachref12_Wrong.loop (l : List ByteArray) (hl : l.length ≤ 4611686018427387903) (d : Nat) : ∀ (i : Nat), i + d = l.length →
    pleachref12_Wrong_p.l0 (d + 1) l (i : Int) = some (M.sumE (M.prv l i) (l.drop i)) := by
  induction d with
  | zero =>
    intro i hi
    rw [pleachref12_Wrong_p.l0, if_neg (by omega), List.drop_of_length_le (by omega)]; rfl
  | succ d ih =>
    intro i hi
    have hlt : i < l.length := by omega
    have hrd : rdOf ByteArray.empty l (i : Int) = l[i] := by simp [rdOf, List.getD, hlt]
    have hn := ih (i + 1) (by omega)
    rw [M.prv_succ l hlt] at hn
    rw [pleachref12_Wrong_p.l0, if_pos (by omega), if_pos (by omega), hrd, List.drop_eq_getElem_cons hlt, M.sumE]
    rw [M.wrap64_id (i := (i : Int) + 1) (by omega) (by omega), show (i : Int) + 1 = ((i + 1 : Nat) : Int) from by omega, hn]
    by_cases hm : l[i].size = 32
    · rw [if_pos (by omega), if_pos hm]
      by_cases h0 : 0 < i
      · have hrd' : rdOf ByteArray.empty l ((i : Int) - 1) = l[i - 1] := by
          rw [show (i : Int) - 1 = ((i - 1 : Nat) : Int) from by omega]
          simp [rdOf, List.getD, show i - 1 < l.length by omega]
        rw [if_pos (by omega), M.wrap64_id (by omega) (by omega), if_pos (by omega), if_pos (by omega), hrd', M.prv_pos l hlt h0, M.follows]
        by_cases hc : M.lt l[i - 1] l[i]
        · have hc' : Op.bytesLess l[i - 1].toList l[i].toList = true := hc
          rw [if_pos hc', if_pos (decide_eq_true hc)]
        · have hc' : ¬ Op.bytesLess l[i - 1].toList l[i].toList = true := hc
          rw [if_neg hc', if_neg (by simp [hc])]
      · obtain rfl : i = 0 := by omega
        rw [if_neg (by omega)]
        rfl
    · rw [if_neg (by omega), if_neg hm]
theorem pleachref12_Wrong.ev (l : List ByteArray) (r : Int) (h : pleachref12_Wrong.f l = some r) : ∃ k, pleachref12_Wrong_p.f k l = some r := by
  unfold pleachref12_Wrong.f at h
  split at h
  case isFalse => cases h
  case isTrue hh =>
    refine ⟨l.length + 1, ?_⟩
    rw [← h]
    exact pleachref12_Wrong.loop l hh l.length 0 (by omega)
theorem pleachref12_Wrong.calls (A0 : Option Addr) (c0 : Nat) (l0 : List ByteArray) (r : Int) (w : World) (hr0 : Kd.C Kd.string w A0 l0.length l0) (hc0 : l0.length ≤ c0) (h : pleachref12_Wrong.f l0 = some r) :
    Calls Try.prog 9 #[.slice A0 l0.length c0] w fun e w' => e = .returned (.int .i64 r) ∧ Drawn0 w w' := by
  obtain ⟨k, hk⟩ := pleachref12_Wrong.ev _ _ h
  exact pleachref12_Wrong_p.calls (k := k) (w := w) (h := hk) (hr0 := hr0) (hc0 := hc0)

end Go.Proofs.Ytbjcpdeinmlbhaa.EFanFinds
