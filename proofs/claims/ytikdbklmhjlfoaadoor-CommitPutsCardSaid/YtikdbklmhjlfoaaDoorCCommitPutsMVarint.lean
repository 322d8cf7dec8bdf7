/- Plain mathematics of numbers' bytes (layer 1): what Put makes, what Get reads. No program in sight. -/
import Derived.Test.YtikdbklmhjlfoaaDoorCCommitPutsMBytes
namespace Go.Proofs.YtikdbklmhjlfoaaDoor.M
open Go.RowKit Go.Proofs.YtikdbklmhjlfoaaDoorW.PrintWords Go.Proofs.YtikdbklmhjlfoaaDoorW.PrintMore

/-- A number's bytes, as numbers. -/
def vputF : Nat → Nat → List Int
  | 0, _ => []
  | k + 1, n => if n < 128 then [(n : Int)] else ((n % 128 + 128 : Nat) : Int) :: vputF k (n / 128)
theorem vputF_more : ∀ (k k' n : Nat), n < k → n < k' → vputF k n = vputF k' n
  | 0, _, _, h, _ => absurd h (Nat.not_lt_zero _)
  | _ + 1, 0, _, _, h => absurd h (Nat.not_lt_zero _)
  | k + 1, k' + 1, n, h, h' => by
    unfold vputF
    by_cases hn : n < 128
    · rw [if_pos hn, if_pos hn]
    · rw [if_neg hn, if_neg hn, vputF_more k k' (n / 128) (by omega) (by omega)]
def vput (n : Nat) : List Int := vputF (n + 1) n
theorem vput_low {n : Nat} (h : n < 128) : vput n = [(n : Int)] := by unfold vput vputF; rw [if_pos h]
theorem vput_high {n : Nat} (h : ¬ n < 128) : vput n = ((n % 128 + 128 : Nat) : Int) :: vput (n / 128) := by
  unfold vput; rw [vputF, if_neg h, vputF_more n (n / 128 + 1) (n / 128) (by omega) (by omega)]

/-- A number's bytes. -/
def vbF : Nat → Nat → List UInt8
  | 0, _ => []
  | k + 1, n => if n < 128 then [UInt8.ofNat n] else UInt8.ofNat (n % 128 + 128) :: vbF k (n / 128)
theorem vbF_more : ∀ (k k' n : Nat), n < k → n < k' → vbF k n = vbF k' n
  | 0, _, _, h, _ => absurd h (Nat.not_lt_zero _)
  | _ + 1, 0, _, _, h => absurd h (Nat.not_lt_zero _)
  | k + 1, k' + 1, n, h, h' => by
    unfold vbF
    by_cases hn : n < 128
    · rw [if_pos hn, if_pos hn]
    · rw [if_neg hn, if_neg hn, vbF_more k k' (n / 128) (by omega) (by omega)]
def vb (n : Nat) : List UInt8 := vbF (n + 1) n
theorem vb_low {n : Nat} (h : n < 128) : vb n = [UInt8.ofNat n] := by unfold vb vbF; rw [if_pos h]
theorem vb_high {n : Nat} (h : ¬ n < 128) : vb n = UInt8.ofNat (n % 128 + 128) :: vb (n / 128) := by
  unfold vb; rw [vbF, if_neg h, vbF_more n (n / 128 + 1) (n / 128) (by omega) (by omega)]

theorem vput_vb (n : Nat) : strOfNums (vput n) = sb (vb n) := by
  apply bs_inj
  rw [bs_sb]
  show (vput n).map (fun x => UInt8.ofNat x.toNat) = vb n
  induction n using Nat.strongRecOn with
  | ind n ih =>
    by_cases h : n < 128
    · rw [vput_low h, vb_low h]; simp
    · rw [vput_high h, vb_high h, List.map_cons, ih (n / 128) (by omega), Int.toNat_natCast]

theorem vb_ne (n : Nat) : vb n ≠ [] := by
  by_cases h : n < 128
  · rw [vb_low h]; simp
  · rw [vb_high h]; simp
theorem vb_pos (n : Nat) : 0 < (vb n).length := List.length_pos_iff.2 (vb_ne n)

theorem u8_toNat {n : Nat} (h : n < 256) : (UInt8.ofNat n).toNat = n := by simp; omega

/-- How long a number's bytes are: at most k + 1, below 2 * 128^k. -/
theorem vb_len (k : Nat) : ∀ n, n < 2 * 128 ^ k → (vb n).length ≤ k + 1 := by
  induction k with
  | zero => intro n h; rw [vb_low (by omega)]; simp
  | succ k ih =>
    intro n h
    by_cases hn : n < 128
    · rw [vb_low hn]; simp
    · rw [vb_high hn, List.length_cons]
      have := ih (n / 128) (by rw [Nat.pow_succ] at h; omega)
      omega
theorem vb_le (n : Nat) (h : n < 18446744073709551616) : (vb n).length ≤ 10 := vb_len 9 n (by simpa using h)

/-- The number at the front of bytes, and how many bytes it has, however large it is. -/
def vdec : List UInt8 → Option (Nat × Nat)
  | [] => none
  | c :: l => if c.toNat < 128 then some (c.toNat, 1) else
    match vdec l with
    | none => none
    | some (m, k) => if m = 0 then none else some (c.toNat - 128 + 128 * m, k + 1)

theorem vdec_low {c : UInt8} {l : List UInt8} (h : c.toNat < 128) : vdec (c :: l) = some (c.toNat, 1) := by rw [vdec, if_pos h]
theorem vdec_high {c : UInt8} {l : List UInt8} (h : ¬ c.toNat < 128) : vdec (c :: l) = match vdec l with | none => none | some (m, k) => if m = 0 then none else some (c.toNat - 128 + 128 * m, k + 1) := by rw [vdec, if_neg h]

theorem vdec_vb (n : Nat) (l : List UInt8) : vdec (vb n ++ l) = some (n, (vb n).length) := by
  induction n using Nat.strongRecOn with
  | ind n ih =>
    by_cases h : n < 128
    · rw [vb_low h, List.cons_append, vdec_low (by rw [u8_toNat (by omega)]; exact h), u8_toNat (by omega)]; rfl
    · have e : (UInt8.ofNat (n % 128 + 128)).toNat = n % 128 + 128 := u8_toNat (by omega)
      rw [vb_high h, List.cons_append, vdec_high (by rw [e]; omega), ih (n / 128) (by omega), e]
      simp only
      rw [if_neg (by omega), List.length_cons]
      congr 2
      omega

theorem vdec_some {l : List UInt8} : ∀ {n k : Nat}, vdec l = some (n, k) → ∃ r, l = vb n ++ r ∧ k = (vb n).length := by
  induction l with
  | nil => intro n k h; cases h
  | cons c l ih =>
    intro n k h
    by_cases hc : c.toNat < 128
    · rw [vdec_low hc] at h
      simp only [Option.some.injEq, Prod.mk.injEq] at h
      obtain ⟨rfl, rfl⟩ := h
      refine ⟨l, ?_, ?_⟩
      · rw [vb_low hc]; simp
      · rw [vb_low hc]; rfl
    · rw [vdec_high hc] at h
      cases hl : vdec l with
      | none => rw [hl] at h; cases h
      | some p =>
        obtain ⟨m, j⟩ := p
        rw [hl] at h
        simp only at h
        by_cases hm : m = 0
        · rw [if_pos hm] at h; cases h
        · rw [if_neg hm] at h
          simp only [Option.some.injEq, Prod.mk.injEq] at h
          obtain ⟨rfl, rfl⟩ := h
          obtain ⟨r, hr, hj⟩ := ih hl
          have hlt := c.toNat_lt
          have hn : ¬ c.toNat - 128 + 128 * m < 128 := by omega
          have hd : (c.toNat - 128 + 128 * m) / 128 = m := by omega
          have hmod : (c.toNat - 128 + 128 * m) % 128 + 128 = c.toNat := by omega
          refine ⟨r, ?_, ?_⟩
          · rw [vb_high hn, hd, hmod, hr]; simp
          · rw [vb_high hn, hd, List.length_cons, hj]

/-- No number's bytes begin with another's. -/
theorem vb_prefix {n m : Nat} {a b : List UInt8} (h : vb n ++ a = vb m ++ b) : n = m := by
  have h1 := vdec_vb n a
  rw [h, vdec_vb m b] at h1
  simp only [Option.some.injEq, Prod.mk.injEq] at h1
  exact h1.1.symm

/-- What Get answers. -/
def vgetL (l : List UInt8) : Int × Int × Bool :=
  match vdec l with
  | some (n, k) => if n < 18446744073709551616 then ((n : Int), (k : Int), true) else (0, 0, false)
  | none => (0, 0, false)
def vget (s : ByteArray) : Int × Int × Bool := vgetL (bs s)

theorem vgetL_vb {n : Nat} (h : n < 18446744073709551616) (l : List UInt8) : vgetL (vb n ++ l) = ((n : Int), ((vb n).length : Int), true) := by
  unfold vgetL; rw [vdec_vb]; simp only; rw [if_pos h]
/-- Either the bytes begin with a number's, or none's. -/
theorem vgetL_cases (l : List UInt8) : (∃ n r, n < 18446744073709551616 ∧ l = vb n ++ r ∧ vgetL l = ((n : Int), ((vb n).length : Int), true)) ∨
    ((∀ n r, n < 18446744073709551616 → l ≠ vb n ++ r) ∧ vgetL l = (0, 0, false)) := by
  cases h : vdec l with
  | none =>
    refine .inr ⟨fun n r hn e => ?_, by unfold vgetL; rw [h]⟩
    rw [e, vdec_vb] at h; cases h
  | some p =>
    obtain ⟨n, k⟩ := p
    obtain ⟨r, hr, hk⟩ := vdec_some h
    by_cases hn : n < 18446744073709551616
    · exact .inl ⟨n, r, hn, hr, by rw [hr]; exact vgetL_vb hn r⟩
    · refine .inr ⟨fun m r' hm e => ?_, by unfold vgetL; rw [h]; simp only; rw [if_neg hn]⟩
      rw [e] at hr; have := vb_prefix hr; omega

theorem put_set (pre : List Int) (k : Nat) (x : Int) (hk : k ≤ 9) (hl : pre.length = k) :
    (pre ++ List.replicate (10 - k) 0).set ((k : Int).toNat) x = pre ++ [x] ++ List.replicate (10 - (k + 1)) 0 := by
  have e : 10 - k = (10 - (k + 1)) + 1 := by omega
  rw [e, List.replicate_succ, Int.toNat_natCast, ← hl, List.set_append_right _ _ (Nat.le_refl _), Nat.sub_self, List.set_cons_zero]
  simp

theorem put_bound {m k : Nat} (hk : k ≤ 9) (hm : m < 2 * 128 ^ (9 - k)) (h : ¬ m < 128) : k + 1 ≤ 9 ∧ m / 128 < 2 * 128 ^ (9 - (k + 1)) := by
  have hk8 : k + 1 ≤ 9 := by
    by_cases e : k = 9
    · subst e; simp at hm; omega
    · omega
  refine ⟨hk8, ?_⟩
  have e : 9 - k = (9 - (k + 1)) + 1 := by omega
  rw [e, Nat.pow_succ] at hm
  generalize 128 ^ (9 - (k + 1)) = p at hm ⊢
  omega

theorem put_m64 {m k : Nat} (hm : m < 2 * 128 ^ (9 - k)) : m < 18446744073709551616 := by
  refine Nat.lt_of_lt_of_le hm ?_
  calc 2 * 128 ^ (9 - k) ≤ 2 * 128 ^ 9 := Nat.mul_le_mul_left _ (Nat.pow_le_pow_right (by decide) (by omega))
    _ = 18446744073709551616 := by decide

theorem or128 (m : Nat) : Go.bits .or .u8 ((m : Int) % 256) 128 = ((m % 128 + 128 : Nat) : Int) := by
  have e : ((m : Int) % 256) = ((m % 256 : Nat) : Int) := by omega
  have h128 : (128 : Int) = ((128 : Nat) : Int) := rfl
  rw [e, h128, (Go.bits_nat .u8 8 (by decide) (fun n h h' => Go.wraps_u8 n h h') (m % 256) 128 (Nat.mod_lt _ (by decide)) (by decide)).2]
  have key : ∀ a : Fin 256, a.val ||| 128 = a.val % 128 + 128 := by decide +kernel
  have := key ⟨m % 256, Nat.mod_lt _ (by decide)⟩
  simp only at this
  rw [this]; omega

/-- What Get's loop does to a number that it has read so far. -/
theorem and127 {c : Nat} (h : c < 256) : Go.bits .and .u64 (c : Int) 127 = ((c % 128 : Nat) : Int) := by
  have := Go.bits_mask .u64 63 (by decide) (fun n h0 h1 => u64_id h0 (by omega)) 7 (by decide) (c : Int) (by omega) (by omega)
  simpa using this
theorem join64 {n c i : Nat} (hn : n < 128 ^ i) (hc : c * 128 ^ i < 18446744073709551616) (hn64 : n < 18446744073709551616) (hi : i ≤ 9) :
    Go.bits .or .u64 (n : Int) (shl .u64 (c : Int) (7 * (i : Int))) = ((n + c * 128 ^ i : Nat) : Int) := by
  have e1 : (7 * (i : Int)).toNat = 7 * i := by omega
  have e2 : min (7 * i) IntKind.u64.bits = 7 * i := Nat.min_eq_left (by simp [IntKind.bits]; omega)
  have e3 : (2 : Nat) ^ (7 * i) = 128 ^ i := by rw [Nat.pow_mul]
  have e4 : shl .u64 (c : Int) (7 * (i : Int)) = ((c * 128 ^ i : Nat) : Int) := by
    unfold shl
    rw [e1, e2]
    have : (c : Int) * 2 ^ (7 * i) = ((c * 128 ^ i : Nat) : Int) := by rw [← e3]; simp
    rw [this, u64_id (by omega) (by omega)]
  rw [e4, (Go.bits_nat .u64 64 (by decide) (fun n h0 h1 => u64_id h0 (by omega)) n (c * 128 ^ i) (by omega) (by omega)).2]
  rw [← e3] at hn ⊢
  congr 1
  rw [Nat.mul_comm c, Nat.or_comm, ← Nat.two_pow_add_eq_or_of_lt hn]
  omega

/-- What Get's loop answers from its i-th byte on, with the number n read so far. -/
def vgo (i n : Nat) (l : List UInt8) : Int × Int × Bool :=
  match vdec l with
  | some (m, k) => if (i ≠ 0 → m ≠ 0) ∧ n + m * 128 ^ i < 18446744073709551616 then (((n + m * 128 ^ i : Nat) : Int), ((i + k : Nat) : Int), true) else (0, 0, false)
  | none => (0, 0, false)
theorem vgo_zero (l : List UInt8) : vgo 0 0 l = vgetL l := by
  unfold vgo vgetL
  cases vdec l with
  | none => rfl
  | some p => obtain ⟨m, k⟩ := p; simp
theorem vgo_low {c : UInt8} (i n : Nat) (l : List UInt8) (h : c.toNat < 128) : vgo i n (c :: l) =
    if (i ≠ 0 → c.toNat ≠ 0) ∧ n + c.toNat * 128 ^ i < 18446744073709551616 then (((n + c.toNat * 128 ^ i : Nat) : Int), ((i + 1 : Nat) : Int), true) else (0, 0, false) := by
  unfold vgo; rw [vdec_low h]
theorem vgo_high {c : UInt8} (i n : Nat) (l : List UInt8) (h : ¬ c.toNat < 128) : vgo i n (c :: l) = vgo (i + 1) (n + c.toNat % 128 * 128 ^ i) l := by
  unfold vgo; rw [vdec_high h]
  have hlt := c.toNat_lt
  have hc : c.toNat % 128 = c.toNat - 128 := by omega
  cases vdec l with
  | none => rfl
  | some p =>
    obtain ⟨m, k⟩ := p
    simp only
    by_cases hm : m = 0
    · rw [if_pos hm]; subst hm; simp
    · rw [if_neg hm]
      simp only
      have e : n + (c.toNat - 128 + 128 * m) * 128 ^ i = n + c.toNat % 128 * 128 ^ i + m * 128 ^ (i + 1) := by
        rw [hc, Nat.pow_succ, Nat.add_mul, Nat.add_assoc]
        congr 2
        rw [Nat.mul_comm 128 m, Nat.mul_assoc, Nat.mul_comm (128 ^ i) 128]
      rw [e]
      have e2 : i + (k + 1) = i + 1 + k := by omega
      rw [e2]
      congr 1
      apply propext
      constructor
      · intro hh; exact ⟨fun _ => hm, hh.2⟩
      · intro hh; exact ⟨fun _ => by omega, hh.2⟩
/-- The tenth byte may be 0 or 1 alone. -/
theorem vgo_nine {c : UInt8} (n : Nat) (l : List UInt8) (h : 1 < c.toNat) : vgo 9 n (c :: l) = (0, 0, false) := by
  by_cases hc : c.toNat < 128
  · rw [vgo_low _ _ _ hc, if_neg]
    intro hh
    have := hh.2
    have : 2 * 128 ^ 9 ≤ c.toNat * 128 ^ 9 := Nat.mul_le_mul_right _ h
    omega
  · rw [vgo_high _ _ _ hc]
    unfold vgo
    cases vdec l with
    | none => rfl
    | some p =>
      obtain ⟨m, k⟩ := p
      simp only
      rw [if_neg]
      intro hh
      have h1 := hh.1 (by omega)
      have h2 := hh.2
      have : 1 * 128 ^ (9 + 1) ≤ m * 128 ^ (9 + 1) := Nat.mul_le_mul_right _ (by omega)
      omega
theorem pow_step {c i n : Nat} (hn : n < 128 ^ i) : n + c % 128 * 128 ^ i < 128 ^ (i + 1) := by
  rw [Nat.pow_succ]
  have : c % 128 * 128 ^ i ≤ 127 * 128 ^ i := Nat.mul_le_mul_right _ (by omega)
  omega
theorem pow_64 {c i n : Nat} (hi : i ≤ 9) (hn : n < 128 ^ i) (h9 : i = 9 → c ≤ 1) : n + c % 128 * 128 ^ i < 18446744073709551616 := by
  by_cases e : i = 9
  · subst e
    have := h9 rfl
    have : c % 128 * 128 ^ 9 ≤ 1 * 128 ^ 9 := Nat.mul_le_mul_right _ (by omega)
    omega
  · have := pow_step (c := c) hn
    have : 128 ^ (i + 1) ≤ 128 ^ 9 := Nat.pow_le_pow_right (by decide) (by omega)
    omega
end Go.Proofs.YtikdbklmhjlfoaaDoor.M
