/- Refs: which of two stands first, by kind, then name. No program in sight. -/
import Derived.Test.YtkaglpjdeinbhaaCRefsChecksMSorted
import Derived.Lib.Bytealg
namespace Go.Proofs.Ytkaglpjdeinbhaa.M
open Go.RowKit Go.Proofs.YtkaglpjdeinbhaaW.PrintWords Go.Proofs.YtkaglpjdeinbhaaW.PrintMore

theorem cmpBytes_less : ∀ a b : List UInt8, Lib.compareBytes a b = if Op.bytesLess a b = true then -1 else if Op.bytesLess b a = true then 1 else 0
  | [], [] => rfl
  | [], _ :: _ => rfl
  | _ :: _, [] => rfl
  | x :: a, y :: b => by
    have ih := cmpBytes_less a b
    unfold Lib.compareBytes Op.bytesLess
    rcases Nat.lt_trichotomy x.toNat y.toNat with h | h | h
    · have h1 : x < y := h
      have h2 : ¬ y < x := fun z => Nat.lt_asymm h z
      have h3 : ¬ y = x := by rintro rfl; exact Nat.lt_irrefl _ h
      simp [h1]
    · have h1 : x = y := UInt8.toNat_inj.1 h
      subst h1
      have h2 : ¬ x < x := fun z => Nat.lt_irrefl x.toNat z
      simpa [h2] using ih
    · have h1 : y < x := h
      have h2 : ¬ x < y := fun z => Nat.lt_asymm h z
      have h3 : ¬ x = y := by rintro rfl; exact Nat.lt_irrefl _ h
      simp [h1, h2, h3]
/-- Does (k1, s1) stand ahead of (k2, s2)? -/
def rless (k1 : Int) (s1 : ByteArray) (k2 : Int) (s2 : ByteArray) : Prop := k1 < k2 ∨ k1 = k2 ∧ lt s1 s2
instance (k1 : Int) (s1 : ByteArray) (k2 : Int) (s2 : ByteArray) : Decidable (rless k1 s1 k2 s2) := inferInstanceAs (Decidable (_ ∨ _))
def rcmp (k1 : Int) (s1 : ByteArray) (k2 : Int) (s2 : ByteArray) : Int := if k1 < k2 then -1 else if k1 > k2 then 1 else Lib.compareBytes s1.data.toList s2.data.toList
theorem lt_data (a b : ByteArray) : Op.bytesLess a.data.toList b.data.toList = true ↔ lt a b := by
  unfold lt
  rw [toList_bs, toList_bs]; rfl
theorem lt_asymm {a b : ByteArray} (h : lt a b) : ¬ lt b a := fun k => lt_irrefl a (lt_trans h k)
theorem rless_irrefl (k : Int) (s : ByteArray) : ¬ rless k s k s := by
  rintro (h | ⟨_, h⟩)
  · omega
  · exact lt_irrefl _ h
theorem rless_trans {k1 k2 k3 : Int} {s1 s2 s3 : ByteArray} (h : rless k1 s1 k2 s2) (g : rless k2 s2 k3 s3) : rless k1 s1 k3 s3 := by
  rcases h with h | ⟨rfl, h⟩
  · rcases g with g | ⟨rfl, g⟩
    · exact .inl (by omega)
    · exact .inl h
  · rcases g with g | ⟨rfl, g⟩
    · exact .inl g
    · exact .inr ⟨rfl, lt_trans h g⟩
theorem rless_asymm {k1 k2 : Int} {s1 s2 : ByteArray} (h : rless k1 s1 k2 s2) : ¬ rless k2 s2 k1 s1 := fun g => rless_irrefl _ _ (rless_trans h g)
theorem rless_or (k1 : Int) (s1 : ByteArray) (k2 : Int) (s2 : ByteArray) : rless k1 s1 k2 s2 ∨ (k1 = k2 ∧ s1 = s2) ∨ rless k2 s2 k1 s1 := by
  by_cases h1 : k1 < k2
  · exact .inl (.inl h1)
  · by_cases h2 : k2 < k1
    · exact .inr (.inr (.inl h2))
    · obtain rfl : k1 = k2 := by omega
      rcases lt_or s1 s2 with h | h | h
      · exact .inl (.inr ⟨rfl, h⟩)
      · exact .inr (.inl ⟨rfl, h⟩)
      · exact .inr (.inr (.inr ⟨rfl, h⟩))
theorem rless_same (k : Int) (s1 s2 : ByteArray) : rless k s1 k s2 ↔ lt s1 s2 := ⟨fun h => h.elim (fun g => absurd g (Int.lt_irrefl k)) (fun g => g.2), fun h => .inr ⟨rfl, h⟩⟩
theorem rcmp_eq (k1 : Int) (s1 : ByteArray) (k2 : Int) (s2 : ByteArray) : rcmp k1 s1 k2 s2 = if rless k1 s1 k2 s2 then -1 else if rless k2 s2 k1 s1 then 1 else 0 := by
  unfold rcmp
  by_cases h1 : k1 < k2
  · rw [if_pos h1, if_pos (show rless k1 s1 k2 s2 from .inl h1)]
  · rw [if_neg h1]
    by_cases h2 : k1 > k2
    · rw [if_pos h2, if_neg (show ¬ rless k1 s1 k2 s2 from by rintro (h | ⟨h, _⟩) <;> omega), if_pos (show rless k2 s2 k1 s1 from .inl h2)]
    · obtain rfl : k1 = k2 := by omega
      rw [if_neg h2, cmpBytes_less]
      by_cases h3 : lt s1 s2
      · rw [if_pos ((lt_data _ _).2 h3), if_pos ((rless_same _ _ _).2 h3)]
      · rw [if_neg (fun z => h3 ((lt_data _ _).1 z)), if_neg (fun z => h3 ((rless_same _ _ _).1 z))]
        by_cases h4 : lt s2 s1
        · rw [if_pos ((lt_data _ _).2 h4), if_pos ((rless_same _ _ _).2 h4)]
        · rw [if_neg (fun z => h4 ((lt_data _ _).1 z)), if_neg (fun z => h4 ((rless_same _ _ _).1 z))]
theorem rcmp_neg (k1 : Int) (s1 : ByteArray) (k2 : Int) (s2 : ByteArray) : rcmp k1 s1 k2 s2 < 0 ↔ rless k1 s1 k2 s2 := by
  rw [rcmp_eq]
  by_cases h : rless k1 s1 k2 s2
  · rw [if_pos h]; simp [h]
  · rw [if_neg h]
    simp only [h, iff_false]
    split <;> omega
theorem rcmp_zero (k1 : Int) (s1 : ByteArray) (k2 : Int) (s2 : ByteArray) : rcmp k1 s1 k2 s2 = 0 ↔ k1 = k2 ∧ s1 = s2 := by
  rw [rcmp_eq]
  rcases rless_or k1 s1 k2 s2 with h | ⟨rfl, rfl⟩ | h
  · rw [if_pos h]
    constructor
    · intro e; cases e
    · rintro ⟨rfl, rfl⟩; exact absurd h (rless_irrefl _ _)
  · simp [rless_irrefl]
  · rw [if_neg (rless_asymm h), if_pos h]
    constructor
    · intro e; cases e
    · rintro ⟨rfl, rfl⟩; exact absurd h (rless_irrefl _ _)
section
variable {α : Type} (K : α → Int) (S H : α → ByteArray)
/-- May a ref be? -/
def rok (x : α) : Prop := (K x = 1 ∨ K x = 2) ∧ isName (S x) = true ∧ (H x).toList ≠ []
instance (x : α) : Decidable (rok K S H x) := inferInstanceAs (Decidable (_ ∧ _))
def rfol : Option α → α → Prop
  | none, _ => True
  | some y, x => rless (K y) (S y) (K x) (S x)
instance rfolDec (p : Option α) (x : α) : Decidable (rfol K S p x) := by
  cases p
  · exact inferInstanceAs (Decidable True)
  · exact inferInstanceAs (Decidable (rless _ _ _ _))
def wrF : Option α → List α → Int
  | _, [] => 0
  | p, x :: t => if rok K S H x then (if rfol K S p x then wrF (some x) t else 4) else 2
/-- The number of why refs may not be. -/
def wr (l : List α) : Int := if l.length > 64 then 5 else wrF K S H none l
end
theorem less_decide (a b : ByteArray) : Op.bytesLess a.toList b.toList = decide (lt a b) := by
  rw [Bool.eq_iff_iff, decide_eq_true_iff]; exact Iff.rfl
end Go.Proofs.Ytkaglpjdeinbhaa.M
