/- Lists of texts that rise: where a text stands, with it, without it. No program in sight. -/
import Derived.Test.YtccekjebfafgcaaDoorMStr
namespace Go.Proofs.YtccekjebfafgcaaDoor.M
open Go.RowKit Go.Proofs.YtccekjebfafgcaaDoorW.PrintWords Go.Proofs.YtccekjebfafgcaaDoorW.PrintMore

def lt (a b : ByteArray) : Prop := Op.bytesLess a.toList b.toList = true
instance (a b : ByteArray) : Decidable (lt a b) := inferInstanceAs (Decidable (_ = true))
theorem less_trans (a : List UInt8) : ∀ b c : List UInt8, Op.bytesLess a b = true → Op.bytesLess b c = true → Op.bytesLess a c = true := by
  induction a with
  | nil =>
    intro b c _ k
    cases c with
    | nil => cases b <;> cases k
    | cons z c => rfl
  | cons x a ih =>
    intro b c h k
    cases b with
    | nil => cases h
    | cons y b =>
      cases c with
      | nil => cases k
      | cons z c =>
        unfold Op.bytesLess at h k ⊢
        simp only [Bool.or_eq_true, Bool.and_eq_true, decide_eq_true_eq, beq_iff_eq] at h k ⊢
        rcases h with h | ⟨rfl, h⟩
        · rcases k with k | ⟨rfl, _⟩
          · exact .inl (Nat.lt_trans h k)
          · exact .inl h
        · rcases k with k | ⟨rfl, k⟩
          · exact .inl k
          · exact .inr ⟨rfl, ih b c h k⟩
theorem lt_trans {a b c : ByteArray} (h : lt a b) (k : lt b c) : lt a c := less_trans _ _ _ h k
theorem lt_irrefl (a : ByteArray) : ¬ lt a a := by unfold lt; rw [less_irrefl]; simp
theorem lt_or (a b : ByteArray) : lt a b ∨ a = b ∨ lt b a := by
  have h := less_or a.toList b.toList
  unfold lt
  cases hb : Op.bytesLess b.toList a.toList with
  | true => exact .inr (.inr rfl)
  | false =>
    rw [hb] at h
    simp only [Bool.not_false, Bool.or_eq_true, beq_iff_eq] at h
    rcases h with h | h
    · exact .inl h
    · refine .inr (.inl (bs_inj ?_))
      rw [← toList_bs, ← toList_bs, h]
instance memDec (s : ByteArray) (l : List ByteArray) : Decidable (s ∈ l) := decidable_of_iff (∃ x ∈ l, x = s) (by simp)
/-- Do texts rise? -/
def rises (l : List ByteArray) : Prop := l.Pairwise lt
instance (l : List ByteArray) : Decidable (rises l) := inferInstanceAs (Decidable (l.Pairwise lt))
theorem rises_adj (l : List ByteArray) (h : ∀ i (_ : i + 1 < l.length), lt l[i] l[i + 1]) : rises l := by
  unfold rises
  rw [List.pairwise_iff_getElem]
  have key : ∀ d i (hj : i + d + 1 < l.length), lt l[i] l[i + d + 1] := by
    intro d
    induction d with
    | zero => intro i hj; exact h i hj
    | succ d ih =>
      intro i hj
      have h1 := ih i (by omega)
      have h2 := h (i + d + 1) (by omega)
      exact lt_trans h1 h2
  intro i j hi hj hij
  have := key (j - i - 1) i (by omega)
  have e : i + (j - i - 1) + 1 = j := by omega
  simpa only [e] using this
/-- How many are less. -/
def cnt (l : List ByteArray) (s : ByteArray) : Nat := (l.filter fun x => decide (lt x s)).length
theorem cnt_le (l : List ByteArray) (s : ByteArray) : cnt l s ≤ l.length := List.length_filter_le _ _
def ins (l : List ByteArray) (s : ByteArray) : List ByteArray := l.take (cnt l s) ++ s :: l.drop (cnt l s)
def del (l : List ByteArray) (s : ByteArray) : List ByteArray := l.take (cnt l s) ++ l.drop (cnt l s + 1)
/-- Where all ahead are less, and none from there on, there so many are less. -/
theorem cnt_at {l : List ByteArray} {s : ByteArray} {i : Nat} (hi : i ≤ l.length) (h1 : ∀ t (h : t < l.length), t < i → lt l[t] s) (h2 : ∀ t (h : t < l.length), i ≤ t → ¬ lt l[t] s) : cnt l s = i := by
  unfold cnt
  rw [← List.take_append_drop i l, List.filter_append, List.length_append]
  have e1 : (l.take i).filter (fun x => decide (lt x s)) = l.take i := by
    rw [List.filter_eq_self]
    intro x hx
    obtain ⟨t, ht, rfl⟩ := List.mem_iff_getElem.1 hx
    rw [List.length_take] at ht
    rw [List.getElem_take]
    exact decide_eq_true (h1 t (by omega) (by omega))
  have e2 : (l.drop i).filter (fun x => decide (lt x s)) = [] := by
    rw [List.filter_eq_nil_iff]
    intro x hx
    obtain ⟨t, ht, rfl⟩ := List.mem_iff_getElem.1 hx
    rw [List.length_drop] at ht
    rw [List.getElem_drop]
    simpa using h2 (i + t) (by omega) (by omega)
  rw [e1, e2, List.length_take, List.length_nil]; omega
theorem cnt_split {l : List ByteArray} (hl : rises l) (s : ByteArray) : (∀ t (h : t < l.length), t < cnt l s → lt l[t] s) ∧ (∀ t (h : t < l.length), cnt l s ≤ t → ¬ lt l[t] s) := by
  have key : ∀ (m : Nat), m ≤ l.length → (∃ i, i ≤ m ∧ (∀ t (h : t < l.length), t < i → lt l[t] s) ∧ (∀ t (h : t < l.length), i ≤ t → t < m → ¬ lt l[t] s)) := by
    intro m
    induction m with
    | zero => intro _; exact ⟨0, Nat.le_refl _, fun t _ ht => absurd ht (by omega), fun t _ _ ht => absurd ht (by omega)⟩
    | succ m ih =>
      intro hm
      obtain ⟨i, hi, h1, h2⟩ := ih (by omega)
      by_cases hc : lt l[m] s
      · refine ⟨m + 1, Nat.le_refl _, fun t h ht => ?_, fun t _ h1 h2 => by omega⟩
        by_cases e : t = m
        · subst e; exact hc
        · exact lt_trans (List.pairwise_iff_getElem.1 hl t m h (by omega) (by omega)) hc
      · refine ⟨i, by omega, h1, fun t h ht hm => ?_⟩
        by_cases e : t = m
        · subst e; exact hc
        · exact h2 t h ht (by omega)
  obtain ⟨i, hi, h1, h2⟩ := key l.length (Nat.le_refl _)
  have e := cnt_at hi h1 (fun t h ht => h2 t h ht h)
  rw [e]
  exact ⟨h1, fun t h ht => h2 t h ht h⟩
/-- Where it is, it stands there. -/
theorem mem_at {l : List ByteArray} (hl : rises l) (s : ByteArray) : s ∈ l ↔ ∃ h : cnt l s < l.length, l[cnt l s] = s := by
  obtain ⟨h1, h2⟩ := cnt_split hl s
  constructor
  · intro hs
    obtain ⟨t, ht, rfl⟩ := List.mem_iff_getElem.1 hs
    have a : cnt l l[t] ≤ t := by
      rcases Nat.lt_or_ge t (cnt l l[t]) with g | g
      · exact absurd (h1 t ht g) (lt_irrefl _)
      · exact g
    refine ⟨by omega, ?_⟩
    by_cases e : cnt l l[t] = t
    · simp only [e]
    · exact absurd (List.pairwise_iff_getElem.1 hl (cnt l l[t]) t (by omega) ht (by omega)) (h2 _ (by omega) (Nat.le_refl _))
  · rintro ⟨h, e⟩
    rw [← e]; exact List.getElem_mem h
/-- With it they rise still. -/
theorem ins_rises {l : List ByteArray} (hl : rises l) {s : ByteArray} (hs : s ∉ l) : rises (ins l s) := by
  obtain ⟨h1, h2⟩ := cnt_split hl s
  unfold ins rises
  rw [List.pairwise_append, List.pairwise_cons]
  have hd : ∀ x ∈ l.drop (cnt l s), lt s x := by
    intro x hx
    obtain ⟨t, ht, rfl⟩ := List.mem_iff_getElem.1 hx
    rw [List.length_drop] at ht
    rw [List.getElem_drop]
    have := h2 (cnt l s + t) (by omega) (by omega)
    rcases lt_or l[cnt l s + t] s with g | g | g
    · exact absurd g this
    · exact absurd (g ▸ List.getElem_mem (by omega)) hs
    · exact g
  have ht : ∀ x ∈ l.take (cnt l s), lt x s := by
    intro x hx
    obtain ⟨t, ht, rfl⟩ := List.mem_iff_getElem.1 hx
    rw [List.length_take] at ht
    rw [List.getElem_take]
    exact h1 t (by omega) (by omega)
  refine ⟨hl.sublist (List.take_sublist _ _), ⟨hd, hl.sublist (List.drop_sublist _ _)⟩, fun a ha b hb => ?_⟩
  rcases List.mem_cons.1 hb with rfl | hb
  · exact ht a ha
  · exact lt_trans (ht a ha) (hd b hb)
theorem ins_cnt {l : List ByteArray} (hl : rises l) {s : ByteArray} : cnt (ins l s) s = cnt l s := by
  obtain ⟨h1, h2⟩ := cnt_split hl s
  have hc := cnt_le l s
  unfold ins
  refine cnt_at (by rw [List.length_append, List.length_take]; omega) (fun t h ht => ?_) (fun t h ht => ?_)
  · rw [List.getElem_append_left (by rw [List.length_take]; omega), List.getElem_take]
    exact h1 t (by omega) ht
  · rw [List.getElem_append_right (by rw [List.length_take]; omega)]
    have e : (l.take (cnt l s)).length = cnt l s := by rw [List.length_take]; omega
    by_cases g : t = cnt l s
    · subst g
      simp only [e, Nat.sub_self, List.getElem_cons_zero]; exact lt_irrefl _
    · obtain ⟨u, hu⟩ : ∃ u, t - (l.take (cnt l s)).length = u + 1 := ⟨t - cnt l s - 1, by rw [e]; omega⟩
      simp only [hu, List.getElem_cons_succ, List.getElem_drop]
      rw [List.length_append, List.length_cons, e, List.length_drop] at h
      exact h2 _ (by omega) (by omega)
theorem mem_ins (l : List ByteArray) (s : ByteArray) : s ∈ ins l s := by unfold ins; exact List.mem_append_right _ List.mem_cons_self
theorem del_ins {l : List ByteArray} (hl : rises l) {s : ByteArray} : del (ins l s) s = l := by
  have hc := cnt_le l s
  unfold del
  rw [ins_cnt hl]
  unfold ins
  have e : (l.take (cnt l s)).length = cnt l s := by rw [List.length_take]; omega
  rw [List.take_left' e, ← List.drop_drop, List.drop_left' e]
  exact List.take_append_drop _ _
theorem ins_length (l : List ByteArray) (s : ByteArray) : (ins l s).length = l.length + 1 := by
  have hc := cnt_le l s
  unfold ins; rw [List.length_append, List.length_cons, List.length_take, List.length_drop]; omega
theorem del_length {l : List ByteArray} {s : ByteArray} (h : cnt l s < l.length) : (del l s).length + 1 = l.length := by
  unfold del; rw [List.length_append, List.length_take, List.length_drop]; omega
theorem del_rises {l : List ByteArray} (hl : rises l) (s : ByteArray) : rises (del l s) := by
  unfold del rises
  rw [List.pairwise_append]
  refine ⟨hl.sublist (List.take_sublist _ _), hl.sublist (List.drop_sublist _ _), fun a ha b hb => ?_⟩
  obtain ⟨t, ht, rfl⟩ := List.mem_iff_getElem.1 ha
  obtain ⟨u, hu, rfl⟩ := List.mem_iff_getElem.1 hb
  rw [List.length_take] at ht
  rw [List.length_drop] at hu
  rw [List.getElem_take, List.getElem_drop]
  exact List.pairwise_iff_getElem.1 hl _ _ (by omega) (by omega) (by omega)
/-! Names, and rows of them -/
def fitN (n : Int) : Prop := (97 ≤ n ∧ n ≤ 122) ∨ (48 ≤ n ∧ n ≤ 57) ∨ n = 45
instance (n : Int) : Decidable (fitN n) := inferInstanceAs (Decidable (_ ∨ _))
def fit (c : UInt8) : Bool := decide (fitN c.toNat)
def isName (s : ByteArray) : Bool := (bs s).all fit && decide (1 ≤ s.size ∧ s.size ≤ 12)
def follows : Option ByteArray → ByteArray → Bool
  | none, _ => true
  | some y, x => decide (lt y x)
def rowE : Option ByteArray → List ByteArray → Int
  | _, [] => 0
  | p, x :: l => if isName x = true then (if follows p x = true then rowE (some x) l else 4) else 2
def prv (l : List ByteArray) (i : Nat) : Option ByteArray := if i = 0 then none else l[i - 1]?
theorem prv_succ (l : List ByteArray) {i : Nat} (h : i < l.length) : prv l (i + 1) = some l[i] := by
  unfold prv; rw [if_neg (by omega), Nat.add_sub_cancel, List.getElem?_eq_getElem h]
theorem prv_pos (l : List ByteArray) {i : Nat} (h : i < l.length) (h0 : 0 < i) : prv l i = some (l[i - 1]'(by omega)) := by
  unfold prv; rw [if_neg (by omega), List.getElem?_eq_getElem (by omega)]
theorem rises_cons2 (y x : ByteArray) (l : List ByteArray) : rises (y :: x :: l) ↔ lt y x ∧ rises (x :: l) := by
  unfold rises
  rw [List.pairwise_cons (a := y)]
  constructor
  · rintro ⟨h1, h2⟩; exact ⟨h1 x List.mem_cons_self, h2⟩
  · rintro ⟨h1, h2⟩
    refine ⟨fun z hz => ?_, h2⟩
    rcases List.mem_cons.1 hz with rfl | hz
    · exact h1
    · exact lt_trans h1 ((List.pairwise_cons.1 h2).1 z hz)
theorem rowE_zero : ∀ (p : Option ByteArray) (l : List ByteArray), rowE p l = 0 ↔ (∀ x ∈ l, isName x = true) ∧ rises (p.toList ++ l)
  | p, [] => by
    cases p <;> simp [rowE, rises]
  | p, x :: l => by
    rw [rowE]
    have ih := rowE_zero (some x) l
    by_cases h : isName x = true
    · rw [if_pos h]
      cases p with
      | none =>
        rw [follows, if_pos rfl, ih]
        simp [h]
      | some y =>
        have e : rises ((some y).toList ++ x :: l) ↔ lt y x ∧ rises ((some x).toList ++ l) := rises_cons2 y x l
        rw [follows, e]
        by_cases hl : lt y x
        · rw [if_pos (decide_eq_true hl), ih]
          simp [h, hl]
        · rw [if_neg (by simp [hl])]
          simp [hl]
    · rw [if_neg h]
      simp [h]
theorem row_iff (l : List ByteArray) : rowE none l = 0 ↔ (∀ x ∈ l, isName x = true) ∧ rises l := rowE_zero none l
theorem isName_size {s : ByteArray} (h : isName s = true) : s.size ≤ 12 := by
  unfold isName at h
  simp at h
  exact h.2.2
/-- A rising list without a text is what is left of it. -/
theorem filter_ne {l : List ByteArray} (hl : rises l) (s : ByteArray) : (l.filter fun x => !decide (x ∈ [s])) = if s ∈ l then del l s else l := by
  obtain ⟨h1, h2⟩ := cnt_split hl s
  have hma := mem_at hl s
  have key : ∀ m : List ByteArray, (∀ x ∈ m, x ≠ s) → (m.filter fun x => !decide (x ∈ [s])) = m := by
    intro m hm
    rw [List.filter_eq_self]
    intro x hx
    simp [hm x hx]
  by_cases hs : s ∈ l
  · rw [if_pos hs]
    obtain ⟨hlt, he⟩ := hma.1 hs
    unfold del
    conv => lhs; rw [← List.take_append_drop (cnt l s) l]
    rw [List.filter_append, List.drop_eq_getElem_cons hlt, List.filter_cons_of_neg (by simp [he]), key, key]
    · intro x hx
      obtain ⟨t, ht, rfl⟩ := List.mem_iff_getElem.1 hx
      rw [List.length_drop] at ht
      rw [List.getElem_drop]
      intro e
      have := List.pairwise_iff_getElem.1 hl (cnt l s) (cnt l s + 1 + t) hlt (by omega) (by omega)
      rw [he, e] at this
      exact lt_irrefl _ this
    · intro x hx
      obtain ⟨t, ht, rfl⟩ := List.mem_iff_getElem.1 hx
      rw [List.length_take] at ht
      rw [List.getElem_take]
      intro e
      have := h1 t (by omega) (by omega)
      rw [e] at this
      exact lt_irrefl _ this
  · rw [if_neg hs]
    exact key l (fun x hx e => hs (e ▸ hx))
end Go.Proofs.YtccekjebfafgcaaDoor.M
