/- Frames (layer 14), one behind the other, and what is taken of bytes. No program in sight. -/
import Derived.Test.YtccekjebfafgcaaDoorMCrc
import Derived.Test.YtccekjebfafgcaaDoorMSpan
namespace Go.Proofs.YtccekjebfafgcaaDoor.M
open Go.RowKit Go.Proofs.YtccekjebfafgcaaDoorW.PrintWords Go.Proofs.YtccekjebfafgcaaDoorW.PrintMore

def fwrong (s : ByteArray) : Int := if s.size = 0 then 2 else if 65536 < s.size then 5 else 0
def frm (s : ByteArray) : List UInt8 := vb (s.size + 4) ++ cseal (bs s)
def frowF : List UInt8 → List ByteArray → ByteArray × Int
  | acc, [] => (sb acc, 0)
  | acc, s :: l => if fwrong s = 0 then frowF (acc ++ frm s) l else (sb [], fwrong s)
def frow (l : List ByteArray) : ByteArray × Int := frowF [] l
def fsize (l : List ByteArray) : Nat := (l.map fun s => (frm s).length).sum
def fread (s : ByteArray) (p er : Int) : ByteArray × Int × Int :=
  if (xtext s p er 65540).2.2 = 0 then (if (copen (xtext s p er 65540).1).2 = true ∧ (copen (xtext s p er 65540).1).1.size ≠ 0 then ((copen (xtext s p er 65540).1).1, (xtext s p er 65540).2.1, 0) else (sb [], (xtext s p er 65540).2.1, 3))
  else (sb [], (xtext s p er 65540).2.1, (xtext s p er 65540).2.2)
def ftake (s : ByteArray) : ByteArray × Int × Int := if (fread s 0 0).2.2 = 0 then ((fread s 0 0).1, (fread s 0 0).2.1, 0) else (sb [], 0, 3)
def fwholeF : Nat → ByteArray → Nat → List ByteArray × Nat
  | 0, _, at_ => ([], at_)
  | k + 1, s, at_ => if at_ < s.size then (if (ftake (s.extract at_ s.size)).2.2 = 0 then ((ftake (s.extract at_ s.size)).1 :: (fwholeF k s (at_ + (ftake (s.extract at_ s.size)).2.1.toNat)).1, (fwholeF k s (at_ + (ftake (s.extract at_ s.size)).2.1.toNat)).2) else ([], at_)) else ([], at_)
def fwhole (s : ByteArray) : List ByteArray × Nat := fwholeF (s.size + 1) s 0

theorem ctail_length (n : Nat) : (ctail n).length = 4 := rfl
theorem cseal_length (s : ByteArray) : (cseal (bs s)).length = s.size + 4 := by rw [cseal, List.length_append, ctail_length, bs_length]
theorem frm_length (s : ByteArray) : (frm s).length = (vb (s.size + 4)).length + s.size + 4 := by rw [frm, List.length_append, cseal_length]; omega
theorem tail_nums (n : Nat) : strOfNums [(n : Int) % 256, (n : Int) / 256 % 256, (n : Int) / 65536 % 256, (n : Int) / 16777216 % 256] = sb (ctail n) := by
  apply bs_inj
  rw [bs_sb]
  show [UInt8.ofNat ((n : Int) % 256).toNat, UInt8.ofNat ((n : Int) / 256 % 256).toNat, UInt8.ofNat ((n : Int) / 65536 % 256).toNat, UInt8.ofNat ((n : Int) / 16777216 % 256).toNat] = ctail n
  rw [show ((n : Int) % 256).toNat = n % 256 from by omega, show ((n : Int) / 256 % 256).toNat = n / 256 % 256 from by omega, show ((n : Int) / 65536 % 256).toNat = n / 65536 % 256 from by omega, show ((n : Int) / 16777216 % 256).toNat = n / 16777216 % 256 from by omega]
  rfl
theorem nil_iff (s : ByteArray) : s.toList = ([] : List UInt8) ↔ s.size = 0 := by
  rw [toList_bs, ← bs_length, List.length_eq_zero_iff]
theorem fread_ok {s : ByteArray} {p : Int} (er : Int) (h : sok s p) : sok s (fread s p er).2.1 := by
  have := xtext_ok s er 65540 h
  unfold fread
  split
  · split <;> exact this
  · exact this
theorem ftake_range (s : ByteArray) (hs : s.size ≤ 9223372036854775806) (h : (ftake s).2.2 = 0) : 1 ≤ (ftake s).2.1 ∧ (ftake s).2.1 ≤ s.size := by
  have h0 : sok s 0 := ⟨by decide, by omega, by omega⟩
  have h1 := fread_ok 0 h0
  unfold ftake at h ⊢
  split at h
  · rename_i c
    rw [if_pos c]
    simp only
    refine ⟨?_, h1.2.1⟩
    unfold fread at c ⊢
    split at c
    · rename_i c2
      rw [if_pos c2]
      obtain ⟨_, h2, h3⟩ := xtext_span h0 c2
      obtain ⟨_, h4, _⟩ := h2
      have hp := vb_pos (xtext s 0 0 65540).1.size
      rw [List.length_append] at h4
      split <;> (simp only; omega)
    · exact absurd c (by assumption)
  · cases h
/-- What was framed is taken, whatever is behind. -/
theorem ftake_here {s t : ByteArray} {r : List UInt8} (h : bs s = frm t ++ r) (hw : fwrong t = 0) : ftake s = (t, ((frm t).length : Int), 0) := by
  have hz : t.size ≠ 0 ∧ t.size ≤ 65536 := by
    unfold fwrong at hw
    split at hw
    · cases hw
    · split at hw
      · cases hw
      · omega
  have hc := cseal_length t
  have h0 : (bs s).drop 0 = vb (cseal (bs t)).length ++ (cseal (bs t) ++ r) := by rw [List.drop_zero, h, frm, hc, List.append_assoc]
  have x := xtext_here (p := 0) (most := 65540) h0 (Nat.zero_le _) (by omega) (by decide)
  rw [show ((0 : Nat) : Int) = 0 from rfl] at x
  have ho := copen_seal (bs t)
  rw [sb_bs] at ho
  have hf : fread s 0 0 = (t, ((0 + (vb (cseal (bs t)).length).length + (cseal (bs t)).length : Nat) : Int), 0) := by
    unfold fread
    simp only [x, ho]
    rw [if_pos trivial, if_pos ⟨trivial, hz.1⟩]
  have hlen : 0 + (vb (cseal (bs t)).length).length + (cseal (bs t)).length = (frm t).length := by rw [frm_length, hc]; omega
  unfold ftake
  rw [hf, hlen, if_pos rfl]
theorem fwhole_here (l : List ByteArray) : ∀ (k : Nat) (s : ByteArray) (at_ : Nat) (r : List UInt8), (∀ t ∈ l, fwrong t = 0) → s.size < at_ + k → (bs s).drop at_ = (l.flatMap frm) ++ r → at_ ≤ s.size →
    ∃ m n, fwholeF k s at_ = (l ++ m, n) ∧ at_ + (l.flatMap frm).length ≤ n ∧ (r = [] → m = [] ∧ n = s.size) := by
  induction l with
  | nil =>
    intro k s at_ r _ hk h hat
    have hge : ∀ k a, a ≤ (fwholeF k s a).2 := by
      intro k
      induction k with
      | zero => intro a; exact Nat.le_refl _
      | succ k ih =>
        intro a
        rw [fwholeF]
        split
        · split
          · have := ih (a + (ftake (s.extract a s.size)).2.1.toNat); simp only; omega
          · exact Nat.le_refl _
        · exact Nat.le_refl _
    refine ⟨_, _, rfl, by simpa using hge k at_, fun hr => ?_⟩
    subst hr
    have hl : (bs s).length ≤ at_ := by simpa using h
    rw [bs_length] at hl
    have hn : ¬ at_ < s.size := by omega
    obtain ⟨k, rfl⟩ : ∃ m, k = m + 1 := ⟨k - 1, by omega⟩
    rw [fwholeF, if_neg hn]
    exact ⟨rfl, by simp only; omega⟩
  | cons t l ih =>
    intro k s at_ r hw hk h hat
    have ht := hw t List.mem_cons_self
    rw [List.flatMap_cons, List.append_assoc] at h
    have hx : bs (s.extract at_ s.size) = frm t ++ (l.flatMap frm ++ r) := by rw [bs_drop, h]
    have htk := ftake_here hx ht
    have hlen := frm_length t
    have hfit := drop_le h hat
    obtain ⟨k, rfl⟩ : ∃ m, k = m + 1 := ⟨k - 1, by omega⟩
    have h1 := drop_on h
    obtain ⟨m, n, e1, e2, e3⟩ := ih k s (at_ + (frm t).length) r (fun x hx => hw x (List.mem_cons_of_mem _ hx)) (by omega) h1 hfit
    refine ⟨m, n, ?_, by rw [List.flatMap_cons, List.length_append]; omega, e3⟩
    rw [fwholeF, if_pos (by omega), htk]
    simp only [if_true, Int.toNat_natCast]
    rw [e1]; rfl
theorem frowF_ok (l : List ByteArray) : ∀ acc, (frowF acc l).2 = 0 → (∀ t ∈ l, fwrong t = 0) ∧ frowF acc l = (sb (acc ++ l.flatMap frm), 0) := by
  induction l with
  | nil => intro acc _; exact ⟨fun t ht => absurd ht List.not_mem_nil, by simp [frowF]⟩
  | cons s l ih =>
    intro acc h
    unfold frowF at h ⊢
    by_cases hw : fwrong s = 0
    · rw [if_pos hw] at h ⊢
      obtain ⟨h1, h2⟩ := ih _ h
      refine ⟨fun t ht => ?_, by rw [h2, List.flatMap_cons, List.append_assoc]⟩
      rcases List.mem_cons.1 ht with rfl | ht
      · exact hw
      · exact h1 t ht
    · rw [if_neg hw] at h
      exact absurd h hw
theorem frowF_err (l : List ByteArray) : ∀ acc, (frowF acc l).2 ≠ 0 → (frowF acc l).1 = sb [] := by
  induction l with
  | nil => intro acc h; exact absurd rfl h
  | cons s l ih =>
    intro acc h
    unfold frowF at h ⊢
    by_cases hw : fwrong s = 0
    · rw [if_pos hw] at h ⊢; exact ih _ h
    · rw [if_neg hw]
end Go.Proofs.YtccekjebfafgcaaDoor.M
