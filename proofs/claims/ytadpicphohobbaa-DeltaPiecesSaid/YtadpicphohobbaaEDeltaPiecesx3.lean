-- Written by this session's own program (wip/tools/ext.py) for this claim; Lean checks it.
import Derived.Test.YtadpicphohobbaaEDeltaPiecesx0
import Derived.Test.YtadpicphohobbaaEDeltaPiecesx2
namespace Go.Proofs.Ytadpicphohobbaa.EDeltaPieces
open Go.RowKit Go.Proofs.YtadpicphohobbaaW.PrintWords Go.Proofs.YtadpicphohobbaaW.PrintLast Go.Proofs.YtadpicphohobbaaW.PrintMore
attribute [local go_sem] M.run_leq M.run_gtr M.run_geq max2_int min2_int max_two min_two max_three min_three max_four min_four   -- for this text's walks alone
set_option linter.unusedVariables false
set_option linter.unusedSimpArgs false

/-! ### pleachref11_stands_p: function 23 -/
def pleachref11_stands_p.l0 : Nat → ByteArray → ByteArray → Int → Option (Int)
  | 0, _, _, _ => none
  | k + 1, x0, x1, x5 => if (wrap64 (x5 + 8)) ≤ (x0.size : Int) then (if 0 ≤ x5 then (if x5 ≤ (wrap64 (x5 + 8)) then (if (x0.extract (x5 : Int).toNat ((wrap64 (x5 + 8)) : Int).toNat).toList = x1.toList then (some x5) else (pleachref11_stands_p.l0 k x0 x1 (wrap64 (x5 + 1)))) else (none)) else (none)) else (some (-1))
def pleachref11_stands_p.f (k : Nat) (a0 : ByteArray) (a1 : ByteArray) : Option (Int) := pleachref11_stands_p.l0 k a0 a1 0
theorem pleachref11_stands_p.mono_l : ∀ k, (∀ y0 y1 y2, LeO (pleachref11_stands_p.l0 k y0 y1 y2) (pleachref11_stands_p.l0 (k + 1) y0 y1 y2))
  | 0 => fun _ _ _ r h => by simp [pleachref11_stands_p.l0] at h
  | k + 1 => by
    have ih0 := pleachref11_stands_p.mono_l k
    · intro y0 y1 y2
      unfold pleachref11_stands_p.l0
      repeat' first
      | (with_reducible exact ih0 _ _ _)
      | (with_reducible exact LeO.refl _)
      | (with_reducible exact LeO.none _)
      | (with_reducible refine LeO.ite ?_ ?_)
      | (with_reducible refine LeO.bind ?_ (fun _ => ?_))
      | exact ih0 _ _ _
      | exact LeO.none _
      | refine LeO.ite ?_ ?_
      | refine LeO.bind ?_ (fun _ => ?_)
theorem pleachref11_stands_p.mono : ∀ a0 a1 k, LeO (pleachref11_stands_p.f k a0 a1) (pleachref11_stands_p.f (k + 1) a0 a1) := by
  intro a0 a1 k
  have ih0 := pleachref11_stands_p.mono_l k
  unfold pleachref11_stands_p.f
  repeat' first
      | (with_reducible exact ih0 _ _ _)
      | (with_reducible exact LeO.refl _)
      | (with_reducible exact LeO.none _)
      | (with_reducible refine LeO.ite ?_ ?_)
      | (with_reducible refine LeO.bind ?_ (fun _ => ?_))
      | exact ih0 _ _ _
      | exact LeO.none _
      | refine LeO.ite ?_ ?_
      | refine LeO.bind ?_ (fun _ => ?_)
set_option maxHeartbeats 8000000 in
set_option maxRecDepth 100000 in
theorem pleachref11_stands_p.calls (k : Nat) (a0 : ByteArray) (a1 : ByteArray) (r : Int) (w : World) (h : pleachref11_stands_p.f k a0 a1 = some r) :
    Calls Try.prog 23 #[.string a0, .string a1] w fun e w' => e = .returned (.int .i64 r) ∧ Drawn0 w w' := by
  have H : (pleachref11_stands_p.l0 k a0 a1 0) = some r := h
  clear h
  have H' := Aside0.mk H
  clear H
  go_enter Try.func23, Try.ntmps23
  go_wp2
  go_loopg [5] k (fun kq v5 w' => ∃ (x5_1 : Int), v5 = .int .i64 x5_1 ∧ Aside0 (pleachref11_stands_p.l0 kq a0 a1 x5_1 = some r) ∧ Aside0 (kq ≤ k) ∧ Drawn0 w w')
  case atStart => exact ⟨(0), (by first | rfl | (simp; done) | (simp [*]; done) | (simp [M.isEmpty_bne]; done)), H', ⟨Nat.le_refl _⟩, by repeat (first | exact Drawn0.refl _ | apply Drawn0.step)⟩
  case round =>
    clear H'
    try clear c2
    try clear p2
    obtain ⟨x5_1, rfl, HA, HK1, ⟨m1, rfl⟩⟩ := hrel
    cases gk with
    | zero => exact absurd HA.out (by simp [pleachref11_stands_p.l0])
    | succ k1 =>
      have H := HA.out
      clear HA
      simp only [pleachref11_stands_p.l0] at H
      by_cases c3 : (wrap64 (x5_1 + 8)) ≤ (a0.size : Int)
      · rw [if_pos c3] at H
        have c3b0 : decide ((wrap64 (x5_1 + 8)) ≤ (a0.size : Int)) = true := decide_eq_true c3
        clear c3
        by_cases c4 : 0 ≤ x5_1
        · rw [if_pos c4] at H
          have c4b0 := eq_true c4
          have c4b1 : decide (0 ≤ x5_1) = true := decide_eq_true c4
          clear c4
          by_cases c5 : x5_1 ≤ (wrap64 (x5_1 + 8))
          · rw [if_pos c5] at H
            have c5b0 := eq_true c5
            have c5b1 : decide (x5_1 ≤ (wrap64 (x5_1 + 8))) = true := decide_eq_true c5
            have c6b0 := eq_true (of_decide_eq_true (by first | (with_reducible assumption) | assumption) : (wrap64 (x5_1 + 8)) ≤ (a0.size : Int))
            by_cases c7 : (a0.extract (x5_1 : Int).toNat ((wrap64 (x5_1 + 8)) : Int).toNat).toList = a1.toList
            · rw [if_pos c7] at H
              have c7b0 : ((a0.extract (x5_1 : Int).toNat ((wrap64 (x5_1 + 8)) : Int).toNat).toList == a1.toList) = true := beq_iff_eq.mpr c7
              have c7b1 : ((a0.extract (x5_1 : Int).toNat ((wrap64 (x5_1 + 8)) : Int).toNat).toList != a1.toList) = false := bne_eq_false_iff_eq.mpr c7
              clear c7
              obtain rfl := Option.some.inj H
              go_wp2
              go_ret
              exact ⟨by first | rfl | (simp; done) | (simp [*]; done), by repeat (first | exact Drawn0.refl _ | apply Drawn0.step)⟩
            · rw [if_neg c7] at H
              have c7b0 : ((a0.extract (x5_1 : Int).toNat ((wrap64 (x5_1 + 8)) : Int).toNat).toList == a1.toList) = false := beq_eq_false_iff_ne.mpr c7
              have c7b1 : ((a0.extract (x5_1 : Int).toNat ((wrap64 (x5_1 + 8)) : Int).toNat).toList != a1.toList) = true := bne_iff_ne.mpr c7
              have H' := Aside0.mk H
              clear H
              go_wp2
              go_roundg k1
              case measure => have := HK1.out; omega
              case rel => exact ⟨(wrap64 (x5_1 + 1)), (by first | rfl | (simp; done) | (simp [*]; done) | (simp [M.isEmpty_bne]; done)), H', ⟨by have := HK1.out; omega⟩, by repeat (first | exact Drawn0.refl _ | apply Drawn0.step)⟩
          · rw [if_neg c5] at H
            exact absurd H (by simp)
        · rw [if_neg c4] at H
          exact absurd H (by simp)
      · rw [if_neg c3] at H
        have c3b0 : decide ((wrap64 (x5_1 + 8)) ≤ (a0.size : Int)) = false := decide_eq_false c3
        clear c3
        obtain rfl := Option.some.inj H
        go_wp2
        go_ret
        exact ⟨by first | rfl | (simp; done) | (simp [*]; done), by repeat (first | exact Drawn0.refl _ | apply Drawn0.step)⟩

-- this session's own plain form
def pleachref11_stands.f (base s : ByteArray) : Option Int := if base.size ≤ 1000000000 then some (match delta_index.at_ base s.data.toList (base.size - 7) with | some j => (j : Int) | none => -1) else none
theorem pleachref11_stands.up (base : ByteArray) (key : List UInt8) (i j : Nat) (h : delta_index.at_ base key i = some j) : ∀ m, i ≤ m → delta_index.at_ base key m = some j := by
  intro m hm
  induction m with
  | zero => obtain rfl : i = 0 := by omega
            exact h
  | succ m ih =>
    by_cases e : i = m + 1
    · rw [← e]; exact h
    · rw [delta_index.at_, ih (by omega)]
theorem pleachref11_stands.loop (base s : ByteArray) (hb : base.size ≤ 1000000000) (d : Nat) : ∀ i : Nat, i + d = base.size - 7 → delta_index.at_ base s.data.toList i = none →
    pleachref11_stands_p.l0 (d + 1) base s (i : Int) = some (match delta_index.at_ base s.data.toList (base.size - 7) with | some j => (j : Int) | none => -1) := by
  induction d with
  | zero =>
    intro i hi hn
    rw [pleachref11_stands_p.l0, M.wrap64_id (by omega) (by omega), if_neg (by omega), ← hi, Nat.add_zero, hn]
  | succ d ih =>
    intro i hi hn
    rw [pleachref11_stands_p.l0, M.wrap64_id (i := (i : Int) + 8) (by omega) (by omega), if_pos (by omega), if_pos (by omega), if_pos (by omega)]
    rw [show ((i : Int) + 8).toNat = i + 8 from by omega, Int.toNat_natCast, M.toList_bs, M.toList_bs]
    by_cases he : M.bs (base.extract i (i + 8)) = M.bs s
    · rw [if_pos he]
      have h1 : delta_index.at_ base s.data.toList (i + 1) = some i := by
        rw [delta_index.at_, hn]
        exact if_pos he
      rw [pleachref11_stands.up base _ (i + 1) i h1 _ (by omega)]
    · rw [if_neg he, M.wrap64_id (i := (i : Int) + 1) (by omega) (by omega), show (i : Int) + 1 = ((i + 1 : Nat) : Int) from by omega]
      refine ih (i + 1) (by omega) ?_
      rw [delta_index.at_, hn]
      exact if_neg he
theorem pleachref11_stands.ev (base s : ByteArray) (r : Int) (h : pleachref11_stands.f base s = some r) : ∃ k, pleachref11_stands_p.f k base s = some r := by
  unfold pleachref11_stands.f at h
  split at h
  case isFalse => cases h
  case isTrue hh =>
    refine ⟨base.size - 7 + 1, ?_⟩
    unfold pleachref11_stands_p.f
    rw [← h]
    exact pleachref11_stands.loop base s hh (base.size - 7) 0 (by omega) rfl
theorem pleachref11_stands.calls (a0 : ByteArray) (a1 : ByteArray) (r : Int) (w : World) (h : pleachref11_stands.f a0 a1 = some r) :
    Calls Try.prog 23 #[.string a0, .string a1] w fun e w' => e = .returned (.int .i64 r) ∧ Drawn0 w w' := by
  obtain ⟨k, hk⟩ := pleachref11_stands.ev _ _ _ h
  exact pleachref11_stands_p.calls (k := k) (w := w) (h := hk)

end Go.Proofs.Ytadpicphohobbaa.EDeltaPieces
