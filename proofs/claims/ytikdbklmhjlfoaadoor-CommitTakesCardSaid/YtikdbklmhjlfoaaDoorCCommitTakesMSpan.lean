/- What stands between two places of a text, and what is read there (layer 4). No program in sight. -/
import Derived.Test.YtikdbklmhjlfoaaDoorCCommitTakesMScan
namespace Go.Proofs.YtikdbklmhjlfoaaDoor.M
open Go.RowKit Go.Proofs.YtikdbklmhjlfoaaDoorW.PrintWords Go.Proofs.YtikdbklmhjlfoaaDoorW.PrintMore

/-- From p on, up to q, just these bytes stand. -/
def span (s : ByteArray) (p q : Int) (l : List UInt8) : Prop := 0 ≤ p ∧ q = p + l.length ∧ (bs s).drop p.toNat = l ++ (bs s).drop q.toNat
theorem span_nil (s : ByteArray) {p : Int} (h : 0 ≤ p) : span s p p [] := ⟨h, by simp, by simp⟩
theorem span_trans {s : ByteArray} {p q r : Int} {l m : List UInt8} (h : span s p q l) (k : span s q r m) : span s p r (l ++ m) := by
  obtain ⟨h0, h1, h2⟩ := h
  obtain ⟨k0, k1, k2⟩ := k
  exact ⟨h0, by rw [List.length_append]; omega, by rw [h2, k2, List.append_assoc]⟩
theorem span_of {s : ByteArray} {p : Int} {l r : List UInt8} (h0 : 0 ≤ p) (h : (bs s).drop p.toNat = l ++ r) : span s p (p + l.length) l := by
  refine ⟨h0, rfl, ?_⟩
  rw [show (p + (l.length : Int)).toNat = p.toNat + l.length from by omega, ← List.drop_drop, h, List.drop_left' rfl]
/-- To the end: that is all. -/
theorem span_all {s : ByteArray} {q : Int} {l : List UInt8} (h : span s 0 q l) (hq : (s.size : Int) ≤ q) : bs s = l := by
  obtain ⟨_, _, h2⟩ := h
  have hl := bs_length s
  rw [List.drop_of_length_le (by omega : (bs s).length ≤ q.toNat), List.append_nil] at h2
  simpa using h2
theorem span_end {s : ByteArray} {q : Int} {l : List UInt8} (h : span s 0 q l) (hs : bs s = l) : q = s.size := by
  obtain ⟨_, h1, _⟩ := h
  rw [← bs_length, hs]; omega
theorem xnum_span {s : ByteArray} {p er most : Int} (h : sok s p) (he : (xnum s p er most).2.2 = 0) :
    er = 0 ∧ span s p (xnum s p er most).2.1 (vb (xnum s p er most).1.toNat) ∧ 0 ≤ (xnum s p er most).1 ∧ (xnum s p er most).1 ≤ most := by
  unfold xnum at he ⊢
  by_cases h0 : er = 0
  · simp only [if_pos h0] at he ⊢
    refine ⟨h0, ?_⟩
    unfold snum at he ⊢
    have hv := vget_at s h
    rcases vgetL_cases (bs (s.extract p.toNat s.size)) with ⟨n, r, hn, hr, eq⟩ | ⟨_, eq⟩
    · rw [bs_drop] at hr
      have e : vget (s.extract p.toNat s.size) = ((n : Int), ((vb n).length : Int), true) := eq
      rw [e] at he hv ⊢
      simp only [if_true] at he ⊢
      split at he
      · cases he
      · rename_i hm
        rw [if_neg hm]
        simp only
        refine ⟨?_, by omega, by omega⟩
        rw [Int.toNat_natCast]
        exact span_of h.1 hr
    · have e : vget (s.extract p.toNat s.size) = (0, 0, false) := eq
      rw [e] at he
      cases he
  · simp only [if_neg h0] at he
    exact absurd he h0
theorem xfix_span {s : ByteArray} {p er n : Int} (h : sok s p) (he : (xfix s p er n).2.2 = 0) :
    er = 0 ∧ span s p (xfix s p er n).2.1 (bs (xfix s p er n).1) ∧ ((xfix s p er n).1.size : Int) = n := by
  unfold xfix at he ⊢
  by_cases h0 : er = 0
  · simp only [if_pos h0] at he ⊢
    refine ⟨h0, ?_⟩
    unfold sfix at he ⊢
    obtain ⟨h1, h2, h3⟩ := h
    split at he
    · cases he
    · rename_i hm
      rw [if_neg hm]
      have hl := bs_length s
      have hz : ((s.extract p.toNat (p + n).toNat).size : Int) = n := by
        rw [← bs_length, bs_extract, List.length_take, List.length_drop]; omega
      refine ⟨⟨h1, ?_, ?_⟩, hz⟩
      · simp only; rw [bs_length]; omega
      · simp only
        rw [bs_extract]
        have : (p + n).toNat = p.toNat + ((p + n).toNat - p.toNat) := by omega
        conv => rhs; rhs; rw [this]
        rw [← List.drop_drop, List.take_append_drop]
  · simp only [if_neg h0] at he
    exact absurd he h0
theorem xtext_span {s : ByteArray} {p er most : Int} (h : sok s p) (he : (xtext s p er most).2.2 = 0) :
    er = 0 ∧ span s p (xtext s p er most).2.1 (vb (xtext s p er most).1.size ++ bs (xtext s p er most).1) ∧ ((xtext s p er most).1.size : Int) ≤ most := by
  unfold xtext at he ⊢
  have hk := xnum_ok s er most h
  obtain ⟨e1, s1, z1⟩ := xfix_span hk he
  obtain ⟨e2, s2, g0, g1⟩ := xnum_span h e1
  rw [← z1, Int.toNat_natCast] at s2
  exact ⟨e2, span_trans s2 s1, by omega⟩
theorem xbyte_span {s : ByteArray} {p er : Int} (h : sok s p) (he : (xbyte s p er).2.2 = 0) :
    er = 0 ∧ span s p (xbyte s p er).2.1 [UInt8.ofNat (xbyte s p er).1.toNat] ∧ 0 ≤ (xbyte s p er).1 ∧ (xbyte s p er).1 < 256 := by
  unfold xbyte at he ⊢
  by_cases h0 : er = 0
  · simp only [if_pos h0] at he ⊢
    refine ⟨h0, ?_⟩
    obtain ⟨h1, h2, h3⟩ := h
    by_cases hp : p < s.size
    · simp only [if_pos hp]
      have hl : p.toNat < (bs s).length := by rw [bs_length]; omega
      have hb := bt_bs s p.toNat hl
      rw [show ((p.toNat : Nat) : Int) = p from by omega] at hb
      have hlt := ((bs s)[p.toNat]).toNat_lt
      rw [hb]
      refine ⟨?_, by omega, by omega⟩
      have e : UInt8.ofNat (((bs s)[p.toNat]).toNat : Int).toNat = (bs s)[p.toNat] := by simp
      rw [e]
      have := span_of (s := s) (p := p) (l := [(bs s)[p.toNat]]) (r := (bs s).drop (p.toNat + 1)) h1 (by rw [List.drop_eq_getElem_cons hl]; rfl)
      simpa using this
    · rw [if_neg hp] at he; cases he
  · simp only [if_neg h0] at he
    exact absurd he h0
/-- What stands there is read. -/
theorem xnum_here {s : ByteArray} {p n : Nat} {r : List UInt8} {most : Int} (h : (bs s).drop p = vb n ++ r) (hm : (n : Int) ≤ most) (hm' : most ≤ 9223372036854775807) :
    xnum s (p : Int) 0 most = ((n : Int), ((p + (vb n).length : Nat) : Int), 0) := by
  unfold xnum; rw [if_pos rfl]; exact snum_here h hm hm'
theorem drop_le {s : ByteArray} {p : Nat} {l r : List UInt8} (h : (bs s).drop p = l ++ r) (hp : p ≤ s.size) : p + l.length ≤ s.size := by
  have := congrArg List.length h
  rw [List.length_drop, bs_length, List.length_append] at this
  omega
theorem drop_on {s : ByteArray} {p : Nat} {l r : List UInt8} (h : (bs s).drop p = l ++ r) : (bs s).drop (p + l.length) = r := by
  rw [← List.drop_drop, h, List.drop_left' rfl]
theorem xfix_here {s : ByteArray} {p : Nat} {t r : List UInt8} (h : (bs s).drop p = t ++ r) (hp : p ≤ s.size) :
    xfix s (p : Int) 0 (t.length : Int) = (sb t, ((p + t.length : Nat) : Int), 0) := by
  unfold xfix; rw [if_pos rfl]; exact sfix_here h hp
theorem xtext_here {s : ByteArray} {p : Nat} {t r : List UInt8} {most : Int} (h : (bs s).drop p = vb t.length ++ (t ++ r)) (hp : p ≤ s.size) (hm : (t.length : Int) ≤ most) (hm' : most ≤ 9223372036854775807) :
    xtext s (p : Int) 0 most = (sb t, ((p + (vb t.length).length + t.length : Nat) : Int), 0) := by
  unfold xtext
  rw [xnum_here h hm hm']
  exact xfix_here (drop_on h) (drop_le h hp)
theorem xbyte_here {s : ByteArray} {p : Nat} {c : UInt8} {r : List UInt8} (h : (bs s).drop p = c :: r) : xbyte s (p : Int) 0 = ((c.toNat : Int), ((p + 1 : Nat) : Int), 0) := by
  have hl : p < (bs s).length := by
    rcases Nat.lt_or_ge p (bs s).length with g | g
    · exact g
    · rw [List.drop_of_length_le g] at h; cases h
  unfold xbyte
  rw [List.drop_eq_getElem_cons hl] at h
  injection h with h1 h2
  rw [if_pos rfl, if_pos (by rw [bs_length] at hl; omega), bt_bs s p hl, h1]; rfl
end Go.Proofs.YtikdbklmhjlfoaaDoor.M
