-- Written by this session's own program (wip/tools/ext.py) for this claim; Lean checks it.
import Derived.Test.YtccekjebfafgcaaDoorEShelfApartx0
namespace Go.Proofs.YtccekjebfafgcaaDoor.EShelfApart
open Go.RowKit Go.Proofs.YtccekjebfafgcaaDoorW.PrintWords Go.Proofs.YtccekjebfafgcaaDoorW.PrintLast Go.Proofs.YtccekjebfafgcaaDoorW.PrintMore
attribute [local go_sem] M.run_leq M.run_gtr M.run_geq max2_int min2_int max_two min_two max_three min_three max_four min_four   -- for this text's walks alone
set_option linter.unusedVariables false
set_option linter.unusedSimpArgs false

/-! ### pleachref03_turn_p: function 42 -/
def pleachref03_turn_p.f (a0 : Int) (a1 : Int) : Option (Int) := if 0 ≤ a1 then (if 0 ≤ (IntKind.u64.wrap (32 - a1)) then (some (Go.bits .or .u32 (shr .u32 a0 a1) (shl .u32 a0 (IntKind.u64.wrap (32 - a1))))) else (none)) else (none)
set_option maxHeartbeats 8000000 in
set_option maxRecDepth 100000 in
theorem pleachref03_turn_p.calls (a0 : Int) (a1 : Int) (r : Int) (w : World) (h : pleachref03_turn_p.f a0 a1 = some r) :
    Calls Tryd.prog 42 #[.int .u32 a0, .int .u64 a1] w fun e w' => e = .returned (.int .u32 r) ∧ Drawn0 w w' := by
  have H : (if 0 ≤ a1 then (if 0 ≤ (IntKind.u64.wrap (32 - a1)) then (some (Go.bits .or .u32 (shr .u32 a0 a1) (shl .u32 a0 (IntKind.u64.wrap (32 - a1))))) else (none)) else (none)) = some r := h
  clear h
  by_cases c3 : 0 ≤ a1
  · rw [if_pos c3] at H
    have c3b0 := eq_true c3
    have c3b1 : decide (0 ≤ a1) = true := decide_eq_true c3
    clear c3
    obtain ⟨ji4, hji4⟩ : ∃ j_ : Int, (shr .u32 a0 a1) = j_ := ⟨_, rfl⟩
    replace H : (if 0 ≤ (IntKind.u64.wrap (32 - a1)) then (some (Go.bits .or .u32 (ji4) (shl .u32 a0 (IntKind.u64.wrap (32 - a1))))) else (none)) = some r := by first | (rw [hji4] at H; exact H) | (simp only [hji4] at H ⊢; exact H)
    have hji4_ : (a0 / 2 ^ min a1.toNat 32) = ji4 := hji4
    have hji4z : a1 ≤ 32 → (a0 / 2 ^ a1.toNat) = ji4 := shr_small hji4
    obtain ⟨ji5, hji5⟩ : ∃ j_ : Int, (IntKind.u64.wrap (32 - a1)) = j_ := ⟨_, rfl⟩
    replace H : (if 0 ≤ (ji5) then (some (Go.bits .or .u32 (ji4) (shl .u32 a0 (ji5)))) else (none)) = some r := by first | (rw [hji5] at H; exact H) | (simp only [hji5] at H ⊢; exact H)
    by_cases c6 : 0 ≤ (ji5)
    · rw [if_pos c6] at H
      have c6b0 := eq_true c6
      have c6b1 : decide (0 ≤ (ji5)) = true := decide_eq_true c6
      clear c6
      obtain ⟨ji7, hji7⟩ : ∃ j_ : Int, (shl .u32 a0 (ji5)) = j_ := ⟨_, rfl⟩
      replace H : (some (Go.bits .or .u32 (ji4) (ji7))) = some r := by first | (rw [hji7] at H; exact H) | (simp only [hji7] at H ⊢; exact H)
      have hji7_ : (IntKind.u32.wrap (a0 * 2 ^ min (ji5).toNat 32)) = ji7 := hji7
      have hji7z : (ji5) ≤ 32 → (IntKind.u32.wrap (a0 * 2 ^ (ji5).toNat)) = ji7 := shl_small hji7
      obtain rfl := Option.some.inj H
      go_enter Tryd.func42, Tryd.ntmps42
      go_wp2
      go_ret
      exact ⟨by first | rfl | (simp; done) | (simp only [← hji4, ← hji5, ← hji7] <;> (first | rfl | simp)) | (simp [*]; done), by repeat (first | exact Drawn0.refl _ | apply Drawn0.step)⟩
    · rw [if_neg c6] at H
      exact absurd H (by simp)
  · rw [if_neg c3] at H
    exact absurd H (by simp)

-- this session's own plain form
def pleachref03_turn.f (a0 a1 : Int) : Option Int := if 0 ≤ a0 ∧ a0 < 4294967296 ∧ 0 < a1 ∧ a1 < 32 then some ((M.rotr a0.toNat a1.toNat : Nat) : Int) else none
theorem pleachref03_turn.ev (a0 a1 r : Int) (h : pleachref03_turn.f a0 a1 = some r) : pleachref03_turn_p.f a0 a1 = some r := by
  unfold pleachref03_turn.f at h
  split at h
  case isFalse => cases h
  case isTrue hh =>
    obtain ⟨h0, h1, h2, h3⟩ := hh
    obtain ⟨y, rfl⟩ := Int.eq_ofNat_of_zero_le h0
    obtain ⟨n, rfl⟩ := Int.eq_ofNat_of_zero_le (show 0 ≤ a1 by omega)
    have hs : IntKind.u64.wrap (32 - (n : Int)) = ((32 - n : Nat) : Int) := by rw [M.u64_wrap]; omega
    rw [Int.toNat_natCast, Int.toNat_natCast] at h
    rw [← h]
    unfold pleachref03_turn_p.f
    rw [hs, if_pos (by omega), if_pos (by omega)]
    have e1 : shl .u32 (y : Int) ((32 - n : Nat) : Int) = ((y * 2 ^ (32 - n) % 4294967296 : Nat) : Int) := by
      unfold shl
      rw [Int.toNat_natCast, show min (32 - n) IntKind.u32.bits = 32 - n from by show min (32 - n) 32 = 32 - n; omega, M.u32_wrap]
      rw [Int.natCast_emod, Int.natCast_mul, Int.natCast_pow]; rfl
    have e2 : shr .u32 (y : Int) (n : Int) = ((y / 2 ^ n : Nat) : Int) := by
      unfold shr
      rw [Int.toNat_natCast, show min n IntKind.u32.bits = n from by show min n 32 = n; omega]
      rw [Int.natCast_ediv, Int.natCast_pow]; rfl
    rw [e1, e2, M.or32 (Nat.lt_of_le_of_lt (Nat.div_le_self _ _) (by omega)) (Nat.mod_lt _ (by decide)), Nat.or_comm]
    rfl
theorem pleachref03_turn.eq_ (y : Nat) (n : Int) (hy : y < 4294967296) (h0 : 0 < n) (h1 : n < 32) : pleachref03_turn.f (y : Int) n = some ((M.rotr y n.toNat : Nat) : Int) := by
  unfold pleachref03_turn.f
  rw [if_pos ⟨by omega, by omega, h0, h1⟩, Int.toNat_natCast]
theorem pleachref03_turn.calls (a0 : Int) (a1 : Int) (r : Int) (w : World) (h : pleachref03_turn.f a0 a1 = some r) :
    Calls Tryd.prog 42 #[.int .u32 a0, .int .u64 a1] w fun e w' => e = .returned (.int .u32 r) ∧ Drawn0 w w' := by
  exact pleachref03_turn_p.calls (w := w) (h := pleachref03_turn.ev _ _ _ h)

end Go.Proofs.YtccekjebfafgcaaDoor.EShelfApart
