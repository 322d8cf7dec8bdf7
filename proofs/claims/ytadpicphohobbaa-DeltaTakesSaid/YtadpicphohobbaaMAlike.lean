/- How many bytes two texts begin with alike. No program in sight. -/
import Derived.Test.YtadpicphohobbaaMBytes
namespace Go.Proofs.Ytadpicphohobbaa.M
open Go.RowKit Go.Proofs.YtadpicphohobbaaW.PrintWords Go.Proofs.YtadpicphohobbaaW.PrintMore
/-- How many bytes two texts begin with alike. -/
def alike : List UInt8 → List UInt8 → Nat
  | a :: as, b :: bs => if a = b then alike as bs + 1 else 0
  | _, _ => 0
theorem alike_le : ∀ (a b : List UInt8), alike a b ≤ a.length ∧ alike a b ≤ b.length
  | [], b => ⟨Nat.zero_le _, by simp [alike]⟩
  | a :: as, [] => ⟨by simp [alike], Nat.zero_le _⟩
  | a :: as, b :: bs => by
    have := alike_le as bs
    simp only [alike, List.length_cons]
    split <;> omega
theorem alike_take : ∀ (a b : List UInt8), a.take (alike a b) = b.take (alike a b)
  | [], b => by simp [alike]
  | a :: as, [] => by simp [alike]
  | a :: as, b :: bs => by
    simp only [alike]
    split
    · rename_i h; subst h
      simp only [List.take_succ_cons, alike_take as bs]
    · simp
theorem alike_ge : ∀ (n : Nat) (a b : List UInt8), n ≤ a.length → n ≤ b.length → a.take n = b.take n → n ≤ alike a b
  | 0, _, _, _, _, _ => Nat.zero_le _
  | n + 1, [], _, h, _, _ => absurd h (by simp)
  | n + 1, _ :: _, [], _, h, _ => absurd h (by simp)
  | n + 1, a :: as, b :: bs, h1, h2, h => by
    simp only [List.take_succ_cons, List.cons.injEq] at h
    simp only [alike, if_pos h.1]
    have := alike_ge n as bs (by simpa using h1) (by simpa using h2) h.2
    omega
/-- The count, byte by byte: from n alike on. -/
theorem alike_step {a b : List UInt8} {n : Nat} (h : n ≤ alike a b) : (n < alike a b ↔ ∃ (h1 : n < a.length) (h2 : n < b.length), a[n] = b[n]) := by
  induction n generalizing a b with
  | zero =>
    cases a with
    | nil => simp [alike]
    | cons x as =>
      cases b with
      | nil => simp [alike]
      | cons y bs =>
        simp only [alike]
        by_cases e : x = y
        · simp [e]
        · simp [e]
  | succ n ih =>
    cases a with
    | nil => simp [alike] at h
    | cons x as =>
      cases b with
      | nil => simp [alike] at h
      | cons y bs =>
        simp only [alike] at h ⊢
        by_cases e : x = y
        · rw [if_pos e] at h ⊢
          have := ih (a := as) (b := bs) (by omega)
          simp only [List.length_cons, List.getElem_cons_succ, Nat.add_lt_add_iff_right]
          exact this
        · rw [if_neg e] at h; omega
end Go.Proofs.Ytadpicphohobbaa.M
