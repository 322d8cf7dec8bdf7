/- Lists of texts that rise: where a text stands, with it, without it. No program in sight. -/
import Derived.Test.YtkaglpjdeinbhaaCRefsPlaysMStr
namespace Go.Proofs.Ytkaglpjdeinbhaa.M
open Go.RowKit Go.Proofs.YtkaglpjdeinbhaaW.PrintWords Go.Proofs.YtkaglpjdeinbhaaW.PrintMore

def lt (a b : ByteArray) : Prop := Op.bytesLess a.toList b.toList = true
instance (a b : ByteArray) : Decidable (lt a b) := inferInstanceAs (Decidable (_ = true))
theorem less_trans (a : List UInt8) : ∀ b c : List UInt8, Op.bytesLess a b = true → Op.bytesLess b c = true → Op.bytesLess a c = true := by
  induction a with
  | nil =>
    intro b c _ k
    cases c with
    | nil => cases b <;> cases k
    | cons z c => rfl
  | cons x a ih =>
    intro b c h k
    cases b with
    | nil => cases h
    | cons y b =>
      cases c with
      | nil => cases k
      | cons z c =>
        unfold Op.bytesLess at h k ⊢
        simp only [Bool.or_eq_true, Bool.and_eq_true, decide_eq_true_eq, beq_iff_eq] at h k ⊢
        rcases h with h | ⟨rfl, h⟩
        · rcases k with k | ⟨rfl, _⟩
          · exact .inl (Nat.lt_trans h k)
          · exact .inl h
        · rcases k with k | ⟨rfl, k⟩
          · exact .inl k
          · exact .inr ⟨rfl, ih b c h k⟩
theorem lt_trans {a b c : ByteArray} (h : lt a b) (k : lt b c) : lt a c := less_trans _ _ _ h k
theorem lt_irrefl (a : ByteArray) : ¬ lt a a := by unfold lt; rw [less_irrefl]; simp
theorem lt_or (a b : ByteArray) : lt a b ∨ a = b ∨ lt b a := by
  have h := less_or a.toList b.toList
  unfold lt
  cases hb : Op.bytesLess b.toList a.toList with
  | true => exact .inr (.inr rfl)
  | false =>
    rw [hb] at h
    simp only [Bool.not_false, Bool.or_eq_true, beq_iff_eq] at h
    rcases h with h | h
    · exact .inl h
    · refine .inr (.inl (bs_inj ?_))
      rw [← toList_bs, ← toList_bs, h]
instance memDec (s : ByteArray) (l : List ByteArray) : Decidable (s ∈ l) := decidable_of_iff (∃ x ∈ l, x = s) (by simp)
/-- Do texts rise? -/
def rises (l : List ByteArray) : Prop := l.Pairwise lt
instance (l : List ByteArray) : Decidable (rises l) := inferInstanceAs (Decidable (l.Pairwise lt))
/-! Names, and rows of them -/
def fitN (n : Int) : Prop := (97 ≤ n ∧ n ≤ 122) ∨ (48 ≤ n ∧ n ≤ 57) ∨ n = 45
instance (n : Int) : Decidable (fitN n) := inferInstanceAs (Decidable (_ ∨ _))
def fit (c : UInt8) : Bool := decide (fitN c.toNat)
def isName (s : ByteArray) : Bool := (bs s).all fit && decide (1 ≤ s.size ∧ s.size ≤ 12)
def follows : Option ByteArray → ByteArray → Bool
  | none, _ => true
  | some y, x => decide (lt y x)
end Go.Proofs.Ytkaglpjdeinbhaa.M
