/- Sums that rise, and their fan (layer 12). No program in sight. -/
import Derived.Test.YtbjcpdeinmlbhaaMSorted
namespace Go.Proofs.Ytbjcpdeinmlbhaa.M
open Go.RowKit Go.Proofs.YtbjcpdeinmlbhaaW.PrintWords Go.Proofs.YtbjcpdeinmlbhaaW.PrintMore
def sumE : Option ByteArray → List ByteArray → Int
  | _, [] => 0
  | p, x :: l => if x.size = 32 then (if follows p x = true then sumE (some x) l else 4) else 2
theorem sumE_zero : ∀ (p : Option ByteArray) (l : List ByteArray), sumE p l = 0 ↔ (∀ x ∈ l, x.size = 32) ∧ rises (p.toList ++ l)
  | p, [] => by
    cases p <;> simp [sumE, rises]
  | p, x :: l => by
    rw [sumE]
    have ih := sumE_zero (some x) l
    by_cases h : x.size = 32
    · rw [if_pos h]
      cases p with
      | none =>
        rw [follows, if_pos rfl, ih]
        simp [h]
      | some y =>
        have e : rises ((some y).toList ++ x :: l) ↔ lt y x ∧ rises ((some x).toList ++ l) := rises_cons2 y x l
        rw [follows, e]
        by_cases hl : lt y x
        · rw [if_pos (decide_eq_true hl), ih]
          simp [h, hl]
        · rw [if_neg (by simp [hl])]
          simp [hl]
    · rw [if_neg h]
      simp [h]
theorem sum_iff (l : List ByteArray) : sumE none l = 0 ↔ (∀ x ∈ l, x.size = 32) ∧ rises l := sumE_zero none l
theorem sumE_range : ∀ (p : Option ByteArray) (l : List ByteArray), sumE p l = 0 ∨ sumE p l = 2 ∨ sumE p l = 4
  | _, [] => .inl rfl
  | p, x :: l => by
    rw [sumE]
    split
    · split
      · exact sumE_range (some x) l
      · exact .inr (.inr rfl)
    · exact .inr (.inl rfl)
/-- The part of a sum. -/
def part (s : ByteArray) : Nat := ((bs s).headD 0).toNat / 16
theorem part_lt (s : ByteArray) : part s < 16 := by
  unfold part
  have := ((bs s).headD 0).toNat_lt
  omega
theorem part_bt (s : ByteArray) (h : 0 < s.size) : bt s 0 / 16 = (part s : Int) ∧ wrap64 (bt s 0) = bt s 0 := by
  have hl : 0 < (bs s).length := by rw [bs_length]; omega
  have e := bt_bs s 0 hl
  rw [show ((0 : Nat) : Int) = 0 from rfl] at e
  have hg : ∀ (l : List UInt8) (h : 0 < l.length), l.headD 0 = l[0] := by
    intro l h
    cases l with
    | nil => simp at h
    | cons x t => rfl
  have hh := hg (bs s) hl
  have := ((bs s)[0]).toNat_lt
  unfold part
  rw [hh, e]
  exact ⟨by omega, wrap64_id (by omega) (by omega)⟩
/-- How many sums stand in a part, and those ahead. -/
def upto (l : List ByteArray) (k : Int) : Nat := l.countP fun x => decide ((part x : Int) ≤ k)
def inpart (l : List ByteArray) (k : Nat) : Nat := l.countP fun x => decide (part x = k)
theorem upto_le (l : List ByteArray) (k : Int) : upto l k ≤ l.length := List.countP_le_length
theorem inpart_le (l : List ByteArray) (k : Nat) : inpart l k ≤ l.length := List.countP_le_length
theorem upto_neg (l : List ByteArray) {k : Int} (h : k < 0) : upto l k = 0 := by
  unfold upto
  rw [List.countP_eq_zero]
  intro x _
  simp; omega
theorem upto_succ (l : List ByteArray) (k : Nat) : upto l ((k + 1 : Nat) : Int) = inpart l (k + 1) + upto l (k : Int) := by
  unfold upto inpart
  induction l with
  | nil => rfl
  | cons x l ih =>
    simp only [List.countP_cons]
    rw [ih]
    by_cases h1 : part x = k + 1
    · rw [if_pos (by simp; omega), if_pos (by simp; omega), if_neg (by simp; omega)]; omega
    · by_cases h2 : (part x : Int) ≤ (k : Int)
      · rw [if_pos (by simp; omega), if_neg (by simp; omega), if_pos (by simp; omega)]; omega
      · rw [if_neg (by simp; omega), if_neg (by simp; omega), if_neg (by simp; omega)]; omega
theorem upto_zero (l : List ByteArray) : upto l 0 = inpart l 0 := by
  unfold upto inpart
  congr 1
  funext x
  apply decide_eq_decide.2; omega
/-- The counts of each part, up to i of them summed up. -/
def fans (l : List ByteArray) (i : Nat) : List Int := (List.range 16).map fun q => if q < i then (upto l (q : Int) : Int) else (inpart l q : Int)
theorem fans_len (l : List ByteArray) (i : Nat) : (fans l i).length = 16 := by simp [fans]
theorem fans_get (l : List ByteArray) (i q : Nat) (h : q < 16) : (fans l i).getD q 0 = if q < i then (upto l (q : Int) : Int) else (inpart l q : Int) := by
  simp [fans, List.getD, h]
theorem fans_nil : fans [] 0 = List.replicate 16 0 := by decide
theorem fans_one (l : List ByteArray) : fans l 1 = fans l 0 := by
  unfold fans
  apply List.map_congr_left
  intro q _
  by_cases h : q = 0
  · subst h; rw [if_pos (by omega), if_neg (by omega)]; exact congrArg Int.ofNat (upto_zero l)
  · rw [if_neg (by omega), if_neg (by omega)]
theorem list_set_eq {a b : List Int} {p : Nat} {v : Int} (hl : a.length = b.length) (h : ∀ q, q < a.length → b.getD q 0 = if q = p then v else a.getD q 0) : a.set p v = b := by
  apply List.ext_getElem
  · simpa using hl
  · intro q h1 h2
    have := h q (by simpa using h1)
    rw [List.getElem_set]
    simp only [List.getD_eq_getElem?_getD, List.getElem?_eq_getElem h2, Option.getD_some] at this
    rw [this]
    have h1' : q < a.length := by simpa using h1
    by_cases e : q = p
    · subst e; simp
    · rw [if_neg (fun z => e z.symm), if_neg e]
      simp [h1']
theorem fans_tally (l : List ByteArray) (s : ByteArray) : (fans l 0).set (part s) ((fans l 0).getD (part s) 0 + 1) = fans (l ++ [s]) 0 := by
  refine list_set_eq (by rw [fans_len, fans_len]) (fun q hq => ?_)
  rw [fans_len] at hq
  simp only [fans_get _ _ _ hq, fans_get _ _ _ (part_lt s), Nat.not_lt_zero, if_false]
  unfold inpart
  rw [List.countP_append]
  by_cases e : q = part s
  · subst e; rw [if_pos rfl]; simp
  · have e' : ¬ part s = q := fun z => e z.symm
    rw [if_neg e]; simp [e']
theorem fans_sum (l : List ByteArray) (i : Nat) (h1 : 1 ≤ i) (h2 : i < 16) : (fans l i).set i ((fans l i).getD i 0 + (fans l i).getD (i - 1) 0) = fans l (i + 1) := by
  refine list_set_eq (by rw [fans_len, fans_len]) (fun q hq => ?_)
  rw [fans_len] at hq
  rw [fans_get _ _ _ hq, fans_get _ _ _ hq, fans_get _ _ _ h2, fans_get _ _ _ (by omega), if_neg (Nat.lt_irrefl i), if_pos (by omega : i - 1 < i)]
  obtain ⟨j, rfl⟩ : ∃ j, i = j + 1 := ⟨i - 1, by omega⟩
  have := upto_succ l j
  by_cases e : q = j + 1
  · subst e; rw [if_pos rfl, if_pos (by omega), this, Nat.add_sub_cancel]; omega
  · rw [if_neg e]
    by_cases h : q < j + 1
    · rw [if_pos h, if_pos (by omega)]
    · rw [if_neg h, if_neg (by omega)]
theorem fans_bd (l : List ByteArray) (i q : Nat) (h : q < 16) : 0 ≤ (fans l i).getD q 0 ∧ (fans l i).getD q 0 ≤ l.length := by
  rw [fans_get _ _ _ h]
  have := upto_le l q
  have := inpart_le l q
  split <;> omega
/-- The first byte rises with the text. -/
theorem part_mono {a b : ByteArray} (ha : 0 < a.size) (h : lt a b) : part a ≤ part b := by
  unfold lt at h
  rw [toList_bs, toList_bs] at h
  rw [← bs_length] at ha
  unfold part
  cases hx : bs a with
  | nil => rw [hx] at ha; simp at ha
  | cons x xs =>
    cases hy : bs b with
    | nil => rw [hx, hy] at h; simp [Op.bytesLess] at h
    | cons y ys =>
      rw [hx, hy] at h
      simp only [List.headD_cons]
      by_cases hxy : x = y
      · subst hxy; exact Nat.le_refl _
      · have hlt : x < y := by
          simp only [Op.bytesLess] at h
          by_cases hc : x < y
          · exact hc
          · simp [hc, hxy] at h
        have := UInt8.lt_iff_toNat_lt.1 hlt
        omega
/-- Where a text of sums that rise stands. -/
def fst : Nat → List ByteArray → ByteArray → Int
  | _, [], _ => -1
  | i, x :: l, s => if x = s then (i : Int) else fst (i + 1) l s
theorem fst_no : ∀ (l : List ByteArray) (i : Nat) (s : ByteArray), s ∉ l → fst i l s = -1
  | [], _, _, _ => rfl
  | x :: l, i, s, h => by
    rw [fst, if_neg (fun e => h (by rw [e]; exact List.mem_cons_self)), fst_no l (i + 1) s (fun z => h (List.mem_cons_of_mem _ z))]
theorem fst_at : ∀ (l : List ByteArray) (i : Nat) (s : ByteArray) (j : Nat) (hj : j < l.length), l.Pairwise (· ≠ ·) → l[j] = s → fst i l s = ((i + j : Nat) : Int)
  | [], _, _, j, hj, _, _ => by simp at hj
  | x :: l, i, s, 0, _, _, h => by
    have h : x = s := h
    rw [fst, if_pos h]; rfl
  | x :: l, i, s, j + 1, hj, hp, h => by
    have hj' : j < l.length := by simpa using hj
    have h : l[j] = s := by simpa using h
    have hne : x ≠ s := by
      rw [← h]
      exact (List.pairwise_cons.1 hp).1 _ (List.getElem_mem hj')
    rw [fst, if_neg hne, fst_at l (i + 1) s j hj' (List.pairwise_cons.1 hp).2 h]
    congr 1; omega
theorem rises_ne {l : List ByteArray} (h : rises l) : l.Pairwise (· ≠ ·) := List.Pairwise.imp (fun {a b} (hab : lt a b) (e : a = b) => lt_irrefl b (e ▸ hab)) h
end Go.Proofs.Ytbjcpdeinmlbhaa.M
