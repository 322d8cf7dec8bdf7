/- Lists of texts that rise: where a text stands, with it, without it. No program in sight. -/
import Derived.Test.YtccekjebfafgcaaDoorCShelfApartMStr
namespace Go.Proofs.YtccekjebfafgcaaDoor.M
open Go.RowKit Go.Proofs.YtccekjebfafgcaaDoorW.PrintWords Go.Proofs.YtccekjebfafgcaaDoorW.PrintMore

def lt (a b : ByteArray) : Prop := Op.bytesLess a.toList b.toList = true
instance (a b : ByteArray) : Decidable (lt a b) := inferInstanceAs (Decidable (_ = true))
theorem less_trans (a : List UInt8) : ∀ b c : List UInt8, Op.bytesLess a b = true → Op.bytesLess b c = true → Op.bytesLess a c = true := by
  induction a with
  | nil =>
    intro b c _ k
    cases c with
    | nil => cases b <;> cases k
    | cons z c => rfl
  | cons x a ih =>
    intro b c h k
    cases b with
    | nil => cases h
    | cons y b =>
      cases c with
      | nil => cases k
      | cons z c =>
        unfold Op.bytesLess at h k ⊢
        simp only [Bool.or_eq_true, Bool.and_eq_true, decide_eq_true_eq, beq_iff_eq] at h k ⊢
        rcases h with h | ⟨rfl, h⟩
        · rcases k with k | ⟨rfl, _⟩
          · exact .inl (Nat.lt_trans h k)
          · exact .inl h
        · rcases k with k | ⟨rfl, k⟩
          · exact .inl k
          · exact .inr ⟨rfl, ih b c h k⟩
theorem lt_trans {a b c : ByteArray} (h : lt a b) (k : lt b c) : lt a c := less_trans _ _ _ h k
theorem lt_irrefl (a : ByteArray) : ¬ lt a a := by unfold lt; rw [less_irrefl]; simp
theorem lt_or (a b : ByteArray) : lt a b ∨ a = b ∨ lt b a := by
  have h := less_or a.toList b.toList
  unfold lt
  cases hb : Op.bytesLess b.toList a.toList with
  | true => exact .inr (.inr rfl)
  | false =>
    rw [hb] at h
    simp only [Bool.not_false, Bool.or_eq_true, beq_iff_eq] at h
    rcases h with h | h
    · exact .inl h
    · refine .inr (.inl (bs_inj ?_))
      rw [← toList_bs, ← toList_bs, h]
instance memDec (s : ByteArray) (l : List ByteArray) : Decidable (s ∈ l) := decidable_of_iff (∃ x ∈ l, x = s) (by simp)
/-- Do texts rise? -/
def rises (l : List ByteArray) : Prop := l.Pairwise lt
instance (l : List ByteArray) : Decidable (rises l) := inferInstanceAs (Decidable (l.Pairwise lt))
/-- How many are less. -/
def cnt (l : List ByteArray) (s : ByteArray) : Nat := (l.filter fun x => decide (lt x s)).length
theorem cnt_le (l : List ByteArray) (s : ByteArray) : cnt l s ≤ l.length := List.length_filter_le _ _
def ins (l : List ByteArray) (s : ByteArray) : List ByteArray := l.take (cnt l s) ++ s :: l.drop (cnt l s)
def del (l : List ByteArray) (s : ByteArray) : List ByteArray := l.take (cnt l s) ++ l.drop (cnt l s + 1)
/-- Where all ahead are less, and none from there on, there so many are less. -/
theorem cnt_at {l : List ByteArray} {s : ByteArray} {i : Nat} (hi : i ≤ l.length) (h1 : ∀ t (h : t < l.length), t < i → lt l[t] s) (h2 : ∀ t (h : t < l.length), i ≤ t → ¬ lt l[t] s) : cnt l s = i := by
  unfold cnt
  rw [← List.take_append_drop i l, List.filter_append, List.length_append]
  have e1 : (l.take i).filter (fun x => decide (lt x s)) = l.take i := by
    rw [List.filter_eq_self]
    intro x hx
    obtain ⟨t, ht, rfl⟩ := List.mem_iff_getElem.1 hx
    rw [List.length_take] at ht
    rw [List.getElem_take]
    exact decide_eq_true (h1 t (by omega) (by omega))
  have e2 : (l.drop i).filter (fun x => decide (lt x s)) = [] := by
    rw [List.filter_eq_nil_iff]
    intro x hx
    obtain ⟨t, ht, rfl⟩ := List.mem_iff_getElem.1 hx
    rw [List.length_drop] at ht
    rw [List.getElem_drop]
    simpa using h2 (i + t) (by omega) (by omega)
  rw [e1, e2, List.length_take, List.length_nil]; omega
theorem cnt_split {l : List ByteArray} (hl : rises l) (s : ByteArray) : (∀ t (h : t < l.length), t < cnt l s → lt l[t] s) ∧ (∀ t (h : t < l.length), cnt l s ≤ t → ¬ lt l[t] s) := by
  have key : ∀ (m : Nat), m ≤ l.length → (∃ i, i ≤ m ∧ (∀ t (h : t < l.length), t < i → lt l[t] s) ∧ (∀ t (h : t < l.length), i ≤ t → t < m → ¬ lt l[t] s)) := by
    intro m
    induction m with
    | zero => intro _; exact ⟨0, Nat.le_refl _, fun t _ ht => absurd ht (by omega), fun t _ _ ht => absurd ht (by omega)⟩
    | succ m ih =>
      intro hm
      obtain ⟨i, hi, h1, h2⟩ := ih (by omega)
      by_cases hc : lt l[m] s
      · refine ⟨m + 1, Nat.le_refl _, fun t h ht => ?_, fun t _ h1 h2 => by omega⟩
        by_cases e : t = m
        · subst e; exact hc
        · exact lt_trans (List.pairwise_iff_getElem.1 hl t m h (by omega) (by omega)) hc
      · refine ⟨i, by omega, h1, fun t h ht hm => ?_⟩
        by_cases e : t = m
        · subst e; exact hc
        · exact h2 t h ht (by omega)
  obtain ⟨i, hi, h1, h2⟩ := key l.length (Nat.le_refl _)
  have e := cnt_at hi h1 (fun t h ht => h2 t h ht h)
  rw [e]
  exact ⟨h1, fun t h ht => h2 t h ht h⟩
/-- With it they rise still. -/
theorem ins_rises {l : List ByteArray} (hl : rises l) {s : ByteArray} (hs : s ∉ l) : rises (ins l s) := by
  obtain ⟨h1, h2⟩ := cnt_split hl s
  unfold ins rises
  rw [List.pairwise_append, List.pairwise_cons]
  have hd : ∀ x ∈ l.drop (cnt l s), lt s x := by
    intro x hx
    obtain ⟨t, ht, rfl⟩ := List.mem_iff_getElem.1 hx
    rw [List.length_drop] at ht
    rw [List.getElem_drop]
    have := h2 (cnt l s + t) (by omega) (by omega)
    rcases lt_or l[cnt l s + t] s with g | g | g
    · exact absurd g this
    · exact absurd (g ▸ List.getElem_mem (by omega)) hs
    · exact g
  have ht : ∀ x ∈ l.take (cnt l s), lt x s := by
    intro x hx
    obtain ⟨t, ht, rfl⟩ := List.mem_iff_getElem.1 hx
    rw [List.length_take] at ht
    rw [List.getElem_take]
    exact h1 t (by omega) (by omega)
  refine ⟨hl.sublist (List.take_sublist _ _), ⟨hd, hl.sublist (List.drop_sublist _ _)⟩, fun a ha b hb => ?_⟩
  rcases List.mem_cons.1 hb with rfl | hb
  · exact ht a ha
  · exact lt_trans (ht a ha) (hd b hb)
theorem ins_length (l : List ByteArray) (s : ByteArray) : (ins l s).length = l.length + 1 := by
  have hc := cnt_le l s
  unfold ins; rw [List.length_append, List.length_cons, List.length_take, List.length_drop]; omega
/-! Names, and rows of them -/
def fitN (n : Int) : Prop := (97 ≤ n ∧ n ≤ 122) ∨ (48 ≤ n ∧ n ≤ 57) ∨ n = 45
instance (n : Int) : Decidable (fitN n) := inferInstanceAs (Decidable (_ ∨ _))
def follows : Option ByteArray → ByteArray → Bool
  | none, _ => true
  | some y, x => decide (lt y x)
end Go.Proofs.YtccekjebfafgcaaDoor.M
