/- Refs: which of two stands first, by kind, then name. No program in sight. -/
import Derived.Test.YtkaglpjdeinbhaaCRefsRecordsMSorted
import Derived.Lib.Bytealg
namespace Go.Proofs.Ytkaglpjdeinbhaa.M
open Go.RowKit Go.Proofs.YtkaglpjdeinbhaaW.PrintWords Go.Proofs.YtkaglpjdeinbhaaW.PrintMore

theorem cmpBytes_less : ∀ a b : List UInt8, Lib.compareBytes a b = if Op.bytesLess a b = true then -1 else if Op.bytesLess b a = true then 1 else 0
  | [], [] => rfl
  | [], _ :: _ => rfl
  | _ :: _, [] => rfl
  | x :: a, y :: b => by
    have ih := cmpBytes_less a b
    unfold Lib.compareBytes Op.bytesLess
    rcases Nat.lt_trichotomy x.toNat y.toNat with h | h | h
    · have h1 : x < y := h
      have h2 : ¬ y < x := fun z => Nat.lt_asymm h z
      have h3 : ¬ y = x := by rintro rfl; exact Nat.lt_irrefl _ h
      simp [h1]
    · have h1 : x = y := UInt8.toNat_inj.1 h
      subst h1
      have h2 : ¬ x < x := fun z => Nat.lt_irrefl x.toNat z
      simpa [h2] using ih
    · have h1 : y < x := h
      have h2 : ¬ x < y := fun z => Nat.lt_asymm h z
      have h3 : ¬ x = y := by rintro rfl; exact Nat.lt_irrefl _ h
      simp [h1, h2, h3]
/-- Does (k1, s1) stand ahead of (k2, s2)? -/
def rless (k1 : Int) (s1 : ByteArray) (k2 : Int) (s2 : ByteArray) : Prop := k1 < k2 ∨ k1 = k2 ∧ lt s1 s2
instance (k1 : Int) (s1 : ByteArray) (k2 : Int) (s2 : ByteArray) : Decidable (rless k1 s1 k2 s2) := inferInstanceAs (Decidable (_ ∨ _))
def rcmp (k1 : Int) (s1 : ByteArray) (k2 : Int) (s2 : ByteArray) : Int := if k1 < k2 then -1 else if k1 > k2 then 1 else Lib.compareBytes s1.data.toList s2.data.toList
theorem less_data (a b : ByteArray) : Op.bytesLess a.data.toList b.data.toList = true ↔ lt a b := by
  unfold lt
  rw [toList_bs, toList_bs]; rfl
theorem lt_asymm {a b : ByteArray} (h : lt a b) : ¬ lt b a := fun k => lt_irrefl a (lt_trans h k)
theorem rless_irrefl (k : Int) (s : ByteArray) : ¬ rless k s k s := by
  rintro (h | ⟨_, h⟩)
  · omega
  · exact lt_irrefl _ h
theorem rless_trans {k1 k2 k3 : Int} {s1 s2 s3 : ByteArray} (h : rless k1 s1 k2 s2) (g : rless k2 s2 k3 s3) : rless k1 s1 k3 s3 := by
  rcases h with h | ⟨rfl, h⟩
  · rcases g with g | ⟨rfl, g⟩
    · exact .inl (by omega)
    · exact .inl h
  · rcases g with g | ⟨rfl, g⟩
    · exact .inl g
    · exact .inr ⟨rfl, lt_trans h g⟩
theorem rless_asymm {k1 k2 : Int} {s1 s2 : ByteArray} (h : rless k1 s1 k2 s2) : ¬ rless k2 s2 k1 s1 := fun g => rless_irrefl _ _ (rless_trans h g)
theorem rless_or (k1 : Int) (s1 : ByteArray) (k2 : Int) (s2 : ByteArray) : rless k1 s1 k2 s2 ∨ (k1 = k2 ∧ s1 = s2) ∨ rless k2 s2 k1 s1 := by
  by_cases h1 : k1 < k2
  · exact .inl (.inl h1)
  · by_cases h2 : k2 < k1
    · exact .inr (.inr (.inl h2))
    · obtain rfl : k1 = k2 := by omega
      rcases lt_or s1 s2 with h | h | h
      · exact .inl (.inr ⟨rfl, h⟩)
      · exact .inr (.inl ⟨rfl, h⟩)
      · exact .inr (.inr (.inr ⟨rfl, h⟩))
theorem rless_same (k : Int) (s1 s2 : ByteArray) : rless k s1 k s2 ↔ lt s1 s2 := ⟨fun h => h.elim (fun g => absurd g (Int.lt_irrefl k)) (fun g => g.2), fun h => .inr ⟨rfl, h⟩⟩
theorem rcmp_eq (k1 : Int) (s1 : ByteArray) (k2 : Int) (s2 : ByteArray) : rcmp k1 s1 k2 s2 = if rless k1 s1 k2 s2 then -1 else if rless k2 s2 k1 s1 then 1 else 0 := by
  unfold rcmp
  by_cases h1 : k1 < k2
  · rw [if_pos h1, if_pos (show rless k1 s1 k2 s2 from .inl h1)]
  · rw [if_neg h1]
    by_cases h2 : k1 > k2
    · rw [if_pos h2, if_neg (show ¬ rless k1 s1 k2 s2 from by rintro (h | ⟨h, _⟩) <;> omega), if_pos (show rless k2 s2 k1 s1 from .inl h2)]
    · obtain rfl : k1 = k2 := by omega
      rw [if_neg h2, cmpBytes_less]
      by_cases h3 : lt s1 s2
      · rw [if_pos ((less_data _ _).2 h3), if_pos ((rless_same _ _ _).2 h3)]
      · rw [if_neg (fun z => h3 ((less_data _ _).1 z)), if_neg (fun z => h3 ((rless_same _ _ _).1 z))]
        by_cases h4 : lt s2 s1
        · rw [if_pos ((less_data _ _).2 h4), if_pos ((rless_same _ _ _).2 h4)]
        · rw [if_neg (fun z => h4 ((less_data _ _).1 z)), if_neg (fun z => h4 ((rless_same _ _ _).1 z))]
theorem rcmp_neg (k1 : Int) (s1 : ByteArray) (k2 : Int) (s2 : ByteArray) : rcmp k1 s1 k2 s2 < 0 ↔ rless k1 s1 k2 s2 := by
  rw [rcmp_eq]
  by_cases h : rless k1 s1 k2 s2
  · rw [if_pos h]; simp [h]
  · rw [if_neg h]
    simp only [h, iff_false]
    split <;> omega
theorem rcmp_zero (k1 : Int) (s1 : ByteArray) (k2 : Int) (s2 : ByteArray) : rcmp k1 s1 k2 s2 = 0 ↔ k1 = k2 ∧ s1 = s2 := by
  rw [rcmp_eq]
  rcases rless_or k1 s1 k2 s2 with h | ⟨rfl, rfl⟩ | h
  · rw [if_pos h]
    constructor
    · intro e; cases e
    · rintro ⟨rfl, rfl⟩; exact absurd h (rless_irrefl _ _)
  · simp [rless_irrefl]
  · rw [if_neg (rless_asymm h), if_pos h]
    constructor
    · intro e; cases e
    · rintro ⟨rfl, rfl⟩; exact absurd h (rless_irrefl _ _)
section
variable {α : Type} (K : α → Int) (S H : α → ByteArray)
/-- May a ref be? -/
def rok (x : α) : Prop := (K x = 1 ∨ K x = 2) ∧ isName (S x) = true ∧ (H x).toList ≠ []
instance (x : α) : Decidable (rok K S H x) := inferInstanceAs (Decidable (_ ∧ _))
def rfol : Option α → α → Prop
  | none, _ => True
  | some y, x => rless (K y) (S y) (K x) (S x)
instance rfolDec (p : Option α) (x : α) : Decidable (rfol K S p x) := by
  cases p
  · exact inferInstanceAs (Decidable True)
  · exact inferInstanceAs (Decidable (rless _ _ _ _))
def wrF : Option α → List α → Int
  | _, [] => 0
  | p, x :: t => if rok K S H x then (if rfol K S p x then wrF (some x) t else 4) else 2
/-- The number of why refs may not be. -/
def wr (l : List α) : Int := if l.length > 64 then 5 else wrF K S H none l
theorem wrF_zero (l : List α) : ∀ p, wrF K S H p l = 0 ↔ (∀ x ∈ l, rok K S H x) ∧ (∀ x ∈ l.head?, rfol K S p x) ∧ l.Pairwise (fun x y => rless (K x) (S x) (K y) (S y)) := by
  induction l with
  | nil => intro p; simp [wrF]
  | cons x t ih =>
    intro p
    unfold wrF
    by_cases h : rok K S H x
    · rw [if_pos h]
      by_cases g : rfol K S p x
      · rw [if_pos g, ih]
        constructor
        · rintro ⟨h1, h2, h3⟩
          refine ⟨fun y hy => ?_, fun y hy => ?_, List.pairwise_cons.2 ⟨fun y hy => ?_, h3⟩⟩
          · rcases List.mem_cons.1 hy with rfl | hy
            · exact h
            · exact h1 y hy
          · have : x = y := by simpa using hy
            exact this ▸ g
          · cases t with
            | nil => cases hy
            | cons z t =>
              have hz := h2 z (by simp)
              rcases List.mem_cons.1 hy with rfl | hy
              · exact hz
              · exact rless_trans hz ((List.pairwise_cons.1 h3).1 y hy)
        · rintro ⟨h1, h2, h3⟩
          refine ⟨fun y hy => h1 y (List.mem_cons_of_mem _ hy), fun y hy => (List.pairwise_cons.1 h3).1 y ?_, (List.pairwise_cons.1 h3).2⟩
          exact List.mem_of_mem_head? hy
      · rw [if_neg g]
        constructor
        · intro e; cases e
        · rintro ⟨_, h2, _⟩; exact absurd (h2 x (by simp)) g
    · rw [if_neg h]
      constructor
      · intro e; cases e
      · rintro ⟨h1, _, _⟩; exact absurd (h1 x List.mem_cons_self) h
theorem wr_zero (l : List α) : wr K S H l = 0 ↔ l.length ≤ 64 ∧ (∀ x ∈ l, rok K S H x) ∧ l.Pairwise (fun x y => rless (K x) (S x) (K y) (S y)) := by
  unfold wr
  by_cases h : l.length > 64
  · rw [if_pos h]
    constructor
    · intro e; cases e
    · rintro ⟨h1, _⟩; omega
  · rw [if_neg h, wrF_zero]
    constructor
    · rintro ⟨h1, _, h3⟩; exact ⟨by omega, h1, h3⟩
    · rintro ⟨_, h1, h3⟩; exact ⟨h1, fun _ _ => trivial, h3⟩
end
theorem less_decide (a b : ByteArray) : Op.bytesLess a.toList b.toList = decide (lt a b) := by
  rw [Bool.eq_iff_iff, decide_eq_true_iff]; exact Iff.rfl
theorem text_inj {a b : ByteArray} : a.toList = b.toList ↔ a = b := ⟨fun h => bs_inj (by rw [← toList_bs, ← toList_bs, h]), fun h => by rw [h]⟩
theorem text_none {a : ByteArray} : a.toList = [] ↔ a = ⟨#[]⟩ := by
  have e : (⟨#[]⟩ : ByteArray).toList = [] := by rw [toList_bs]; rfl
  exact ⟨fun h => text_inj.1 (h.trans e.symm), fun h => by rw [h]; exact e⟩
section
variable {α : Type} (K : α → Int) (S H : α → ByteArray) (mk : Int → ByteArray → ByteArray → α)
def rless_ (k : Int) (s : ByteArray) (x : α) : Bool := decide (rless (K x) (S x) k s)
def rmore (k : Int) (s : ByteArray) (x : α) : Bool := decide (rless k s (K x) (S x))
def req (k : Int) (s : ByteArray) (x : α) : Bool := decide (K x = k ∧ S x = s)
/-- What a ref names; empty: there is none. -/
def rget (l : List α) (k : Int) (s : ByteArray) : ByteArray := ((l.find? (req K S k s)).map H).getD ⟨#[]⟩
/-- A change of one ref. -/
def rset (l : List α) (k : Int) (s old now : ByteArray) : List α × Int :=
  if ¬ ((k = 1 ∨ k = 2) ∧ isName s = true) ∨ (old = ⟨#[]⟩ ∧ now = ⟨#[]⟩) then ([], 2)
  else if rget K S H l k s = old then
    (if old = ⟨#[]⟩ ∧ 64 ≤ l.length then ([], 5)
     else (l.filter (rless_ K S k s) ++ (if now = ⟨#[]⟩ then [] else [mk k s now]) ++ l.filter (rmore K S k s), 0))
  else if old = ⟨#[]⟩ then ([], 10) else if rget K S H l k s = ⟨#[]⟩ then ([], 9) else ([], 12)
theorem rsplit (k : Int) (s : ByteArray) (l : List α) (h : l.Pairwise (fun x y => rless (K x) (S x) (K y) (S y))) : ∃ mid, l = l.filter (rless_ K S k s) ++ mid ++ l.filter (rmore K S k s) ∧ l.takeWhile (rless_ K S k s) = l.filter (rless_ K S k s) ∧
    ((mid = [] ∧ l.find? (req K S k s) = none) ∨ ∃ x, mid = [x] ∧ K x = k ∧ S x = s ∧ l.find? (req K S k s) = some x) := by
  induction l with
  | nil => exact ⟨[], rfl, rfl, .inl ⟨rfl, rfl⟩⟩
  | cons x t ih =>
    obtain ⟨hx, ht⟩ := List.pairwise_cons.1 h
    have none_of : ∀ q : α → Bool, (∀ y ∈ t, q y = false) → t.filter q = [] := fun q hq => List.filter_eq_nil_iff.2 (fun y hy => by rw [hq y hy]; decide)
    have all_of : ∀ q : α → Bool, (∀ y ∈ t, q y = true) → t.filter q = t := fun q hq => List.filter_eq_self.2 hq
    rcases rless_or (K x) (S x) k s with c | ⟨c1, c2⟩ | c
    · obtain ⟨mid, e1, e2, e3⟩ := ih ht
      have q1 : rless_ K S k s x = true := decide_eq_true c
      have q2 : rmore K S k s x = false := decide_eq_false (rless_asymm c)
      have q3 : req K S k s x = false := decide_eq_false (fun z => rless_irrefl k s (by have := c; rw [z.1, z.2] at this; exact this))
      refine ⟨mid, ?_, ?_, ?_⟩
      · rw [List.filter_cons_of_pos q1, List.filter_cons_of_neg (by rw [q2]; decide), List.cons_append, List.cons_append, ← e1]
      · rw [List.takeWhile_cons_of_pos q1, List.filter_cons_of_pos q1, e2]
      · rw [List.find?_cons_of_neg (by rw [q3]; decide)]; exact e3
    · have q1 : rless_ K S k s x = false := decide_eq_false (by rw [c1, c2]; exact rless_irrefl k s)
      have q2 : rmore K S k s x = false := decide_eq_false (by rw [c1, c2]; exact rless_irrefl k s)
      have q3 : req K S k s x = true := decide_eq_true ⟨c1, c2⟩
      have a1 : ∀ y ∈ t, rless k s (K y) (S y) := fun y hy => by have := hx y hy; rwa [c1, c2] at this
      refine ⟨[x], ?_, ?_, .inr ⟨x, rfl, c1, c2, ?_⟩⟩
      · rw [List.filter_cons_of_neg (by rw [q1]; decide), List.filter_cons_of_neg (by rw [q2]; decide), none_of (rless_ K S k s) (fun y hy => decide_eq_false (rless_asymm (a1 y hy))), all_of (rmore K S k s) (fun y hy => decide_eq_true (a1 y hy))]
        rfl
      · rw [List.takeWhile_cons_of_neg (by rw [q1]; decide), List.filter_cons_of_neg (by rw [q1]; decide), none_of (rless_ K S k s) (fun y hy => decide_eq_false (rless_asymm (a1 y hy)))]
      · rw [List.find?_cons_of_pos q3]
    · have a1 : ∀ y ∈ t, rless k s (K y) (S y) := fun y hy => rless_trans c (hx y hy)
      have q1 : rless_ K S k s x = false := decide_eq_false (rless_asymm c)
      have q2 : rmore K S k s x = true := decide_eq_true c
      have q3 : ∀ y ∈ x :: t, req K S k s y = false := fun y hy => decide_eq_false (fun z => by
        have : rless k s (K y) (S y) := by
          rcases List.mem_cons.1 hy with rfl | hy
          · exact c
          · exact a1 y hy
        rw [z.1, z.2] at this
        exact rless_irrefl k s this)
      refine ⟨[], ?_, ?_, .inl ⟨rfl, List.find?_eq_none.2 (fun y hy => by rw [q3 y hy]; decide)⟩⟩
      · rw [List.filter_cons_of_neg (by rw [q1]; decide), List.filter_cons_of_pos q2, none_of (rless_ K S k s) (fun y hy => decide_eq_false (rless_asymm (a1 y hy))), all_of (rmore K S k s) (fun y hy => decide_eq_true (a1 y hy))]
        rfl
      · rw [List.takeWhile_cons_of_neg (by rw [q1]; decide), List.filter_cons_of_neg (by rw [q1]; decide), none_of (rless_ K S k s) (fun y hy => decide_eq_false (rless_asymm (a1 y hy)))]
end
end Go.Proofs.Ytkaglpjdeinbhaa.M
