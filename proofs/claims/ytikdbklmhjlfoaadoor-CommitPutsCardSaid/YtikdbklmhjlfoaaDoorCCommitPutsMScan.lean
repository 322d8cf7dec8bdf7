/- What a Scan reads (layer 4), on its bytes, its place and its error. No program in sight. -/
import Derived.Test.YtikdbklmhjlfoaaDoorCCommitPutsMRef01
namespace Go.Proofs.YtikdbklmhjlfoaaDoor.M
open Go.RowKit Go.Proofs.YtikdbklmhjlfoaaDoorW.PrintWords Go.Proofs.YtikdbklmhjlfoaaDoorW.PrintMore

/-- A place in a text that fits the machine. -/
def sok (s : ByteArray) (p : Int) : Prop := 0 ≤ p ∧ p ≤ s.size ∧ s.size ≤ 9223372036854775807
instance (s : ByteArray) (p : Int) : Decidable (sok s p) := inferInstanceAs (Decidable (_ ∧ _))
/-- A number that is read: it, the place and the error behind it. -/
def snum (s : ByteArray) (p most : Int) : Int × Int × Int :=
  if (vget (s.extract p.toNat s.size)).2.2 = true then (if most < 0 ∨ most < (vget (s.extract p.toNat s.size)).1 then (0, p, 5) else ((vget (s.extract p.toNat s.size)).1, p + (vget (s.extract p.toNat s.size)).2.1, 0)) else (0, p, 3)
/-- So many bytes that are read. -/
def sfix (s : ByteArray) (p n : Int) : ByteArray × Int × Int :=
  if n < 0 ∨ s.size - p < n then (sb [], p, 3) else (s.extract p.toNat (p + n).toNat, p + n, 0)
theorem size_extract_to (s : ByteArray) {p : Int} (h : sok s p) : ((s.extract p.toNat s.size).size : Int) = s.size - p := by
  obtain ⟨h0, h1, _⟩ := h
  rw [← bs_length, bs_drop, List.length_drop, bs_length]; omega
theorem vget_at (s : ByteArray) {p : Int} (h : sok s p) : 0 ≤ (vget (s.extract p.toNat s.size)).1 ∧ (vget (s.extract p.toNat s.size)).1 < 18446744073709551616 ∧ 0 ≤ (vget (s.extract p.toNat s.size)).2.1 ∧ p + (vget (s.extract p.toNat s.size)).2.1 ≤ s.size := by
  have := vget_range (s.extract p.toNat s.size)
  have := size_extract_to s h
  omega
theorem snum_ok (s : ByteArray) {p : Int} (most : Int) (h : sok s p) : sok s (snum s p most).2.1 := by
  have := vget_at s h
  unfold snum
  obtain ⟨h0, h1, h2⟩ := h
  split
  · split
    · exact ⟨h0, h1, h2⟩
    · exact ⟨by simp only; omega, by simp only; omega, h2⟩
  · exact ⟨h0, h1, h2⟩
theorem sfix_ok (s : ByteArray) {p : Int} (n : Int) (h : sok s p) : sok s (sfix s p n).2.1 := by
  unfold sfix
  obtain ⟨h0, h1, h2⟩ := h
  split
  · exact ⟨h0, h1, h2⟩
  · exact ⟨by simp only; omega, by simp only; omega, h2⟩

/-- .. where an error may stand already. -/
def xfix (s : ByteArray) (p er n : Int) : ByteArray × Int × Int := if er = 0 then sfix s p n else (sb [], p, er)
def xnum (s : ByteArray) (p er most : Int) : Int × Int × Int := if er = 0 then snum s p most else (0, p, er)
def xbyte (s : ByteArray) (p er : Int) : Int × Int × Int := if er = 0 then (if p < s.size then (bt s p, p + 1, 0) else (0, p, 3)) else (0, p, er)
def xtext (s : ByteArray) (p er most : Int) : ByteArray × Int × Int := xfix s (xnum s p er most).2.1 (xnum s p er most).2.2 (xnum s p er most).1
def xend (s : ByteArray) (p er : Int) : Int := if er = 0 ∧ p < s.size then 3 else er
theorem xfix_ok (s : ByteArray) {p : Int} (er n : Int) (h : sok s p) : sok s (xfix s p er n).2.1 := by
  unfold xfix; split
  · exact sfix_ok s n h
  · exact h
theorem xnum_ok (s : ByteArray) {p : Int} (er most : Int) (h : sok s p) : sok s (xnum s p er most).2.1 := by
  unfold xnum; split
  · exact snum_ok s most h
  · exact h
theorem xbyte_ok (s : ByteArray) {p : Int} (er : Int) (h : sok s p) : sok s (xbyte s p er).2.1 := by
  unfold xbyte
  obtain ⟨h0, h1, h2⟩ := h
  split
  · split
    · exact ⟨by simp only; omega, by simp only; omega, h2⟩
    · exact ⟨h0, h1, h2⟩
  · exact ⟨h0, h1, h2⟩
theorem snum_range (s : ByteArray) {p : Int} {most : Int} (h : sok s p) (hm : most ≤ 9223372036854775807) : 0 ≤ (snum s p most).1 ∧ (snum s p most).1 ≤ 9223372036854775807 := by
  have := vget_at s h
  unfold snum
  split
  · split
    · simp only; omega
    · simp only; omega
  · simp only; omega
theorem fix_code (s : ByteArray) {p n : Int} (h : sok s p) (hn : -9223372036854775808 ≤ n) (hn' : n ≤ 9223372036854775807) :
    (if n < 0 then some ((⟨#[]⟩ : ByteArray), p, (3 : Int)) else (if n > (wrap64 ((s.size : Int) - p)) then some ((⟨#[]⟩ : ByteArray), p, (3 : Int)) else (if 0 ≤ p then (if p ≤ (wrap64 (p + n)) then (if (wrap64 (p + n)) ≤ (s.size : Int) then (some (s.extract (p : Int).toNat ((wrap64 (p + n)) : Int).toNat, wrap64 (p + n), 0)) else none) else none) else none))) = some (sfix s p n) := by
  obtain ⟨h0, h1, h2⟩ := h
  rw [wrap64_id (i := (s.size : Int) - p) (by omega) (by omega)]
  unfold sfix
  by_cases c0 : n < 0
  · rw [if_pos c0, if_pos (.inl c0)]; rfl
  · rw [if_neg c0]
    by_cases c1 : n > (s.size : Int) - p
    · rw [if_pos c1, if_pos (.inr c1)]; rfl
    · have c2 : ¬ (n < 0 ∨ (s.size : Int) - p < n) := by omega
      rw [if_neg c1, if_neg c2, wrap64_id (i := p + n) (by omega) (by omega), if_pos h0, if_pos (by omega), if_pos (by omega)]
theorem byte_of (s : ByteArray) {p : Int} (h : sok s p) (hp : p < s.size) :
    ¬ (s.extract p.toNat (p + 1).toNat).toList = ([] : List UInt8) ∧ (0 : Int) < ((s.extract p.toNat (p + 1).toNat).size : Int) ∧ wrap64 (bt (s.extract p.toNat (p + 1).toNat) 0) = bt s p := by
  obtain ⟨h0, h1, h2⟩ := h
  have hl : p.toNat < (bs s).length := by rw [bs_length]; omega
  have e : bs (s.extract p.toNat (p + 1).toNat) = [(bs s)[p.toNat]] := by
    rw [bs_extract, List.drop_eq_getElem_cons hl, show (p + 1).toNat - p.toNat = 1 from by omega, List.take_succ_cons, List.take_zero]
  have hz : (s.extract p.toNat (p + 1).toNat).size = 1 := by rw [← bs_length, e]; rfl
  refine ⟨by rw [toList_bs, e]; simp, by rw [hz]; decide, ?_⟩
  have hb := bt_bs s p.toNat hl
  rw [show ((p.toNat : Nat) : Int) = p from by omega] at hb
  have hb2 := bt_bs (s.extract p.toNat (p + 1).toNat) 0 (by rw [e]; simp)
  have hlt := ((bs s)[p.toNat]).toNat_lt
  rw [show ((0 : Nat) : Int) = 0 from rfl] at hb2
  simp only [e, List.getElem_cons_zero] at hb2
  rw [hb, hb2, wrap64_id (by omega) (by omega)]

theorem vget_drop (s : ByteArray) (p : Nat) : vget (s.extract ((p : Nat) : Int).toNat s.size) = vgetL ((bs s).drop p) := by
  unfold vget; rw [bs_drop, Int.toNat_natCast]
theorem snum_here {s : ByteArray} {p n : Nat} {r : List UInt8} {most : Int} (h : (bs s).drop p = vb n ++ r) (hm : (n : Int) ≤ most) (hm' : most ≤ 9223372036854775807) :
    snum s (p : Int) most = ((n : Int), ((p + (vb n).length : Nat) : Int), 0) := by
  unfold snum
  have c : ¬ (most < 0 ∨ most < (n : Int)) := by omega
  rw [vget_drop, h, vgetL_vb (by omega)]
  simp only [if_true]
  rw [if_neg c]; simp
theorem sfix_here {s : ByteArray} {p : Nat} {t r : List UInt8} (h : (bs s).drop p = t ++ r) (hp : p ≤ s.size) :
    sfix s (p : Int) (t.length : Int) = (sb t, ((p + t.length : Nat) : Int), 0) := by
  have hl : (bs s).length - p = t.length + r.length := by rw [← List.length_drop, h, List.length_append]
  rw [bs_length] at hl
  unfold sfix
  have c : ¬ ((t.length : Int) < 0 ∨ (s.size : Int) - (p : Int) < (t.length : Int)) := by omega
  rw [if_neg c]
  have e : s.extract ((p : Nat) : Int).toNat ((p : Int) + (t.length : Int)).toNat = sb t := by
    apply bs_inj
    rw [bs_extract, Int.toNat_natCast, h, show ((p : Int) + (t.length : Int)).toNat - p = t.length from by omega, List.take_left' rfl, bs_sb]
  rw [e]; simp
theorem xnum_range (s : ByteArray) {p er most : Int} (h : sok s p) (hm0 : 0 ≤ most) (hm : most ≤ 9223372036854775807) : 0 ≤ (xnum s p er most).1 ∧ (xnum s p er most).1 ≤ most := by
  have hv := vget_at s h
  unfold xnum
  split
  · unfold snum
    split
    · split
      · simp only; omega
      · simp only; omega
    · simp only; omega
  · simp only; omega
end Go.Proofs.YtikdbklmhjlfoaaDoor.M
