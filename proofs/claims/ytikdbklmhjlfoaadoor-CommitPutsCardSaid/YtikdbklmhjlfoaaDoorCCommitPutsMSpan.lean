/- What stands between two places of a text, and what is read there (layer 4). No program in sight. -/
import Derived.Test.YtikdbklmhjlfoaaDoorCCommitPutsMScan
namespace Go.Proofs.YtikdbklmhjlfoaaDoor.M
open Go.RowKit Go.Proofs.YtikdbklmhjlfoaaDoorW.PrintWords Go.Proofs.YtikdbklmhjlfoaaDoorW.PrintMore

/-- What stands there is read. -/
theorem xnum_here {s : ByteArray} {p n : Nat} {r : List UInt8} {most : Int} (h : (bs s).drop p = vb n ++ r) (hm : (n : Int) ≤ most) (hm' : most ≤ 9223372036854775807) :
    xnum s (p : Int) 0 most = ((n : Int), ((p + (vb n).length : Nat) : Int), 0) := by
  unfold xnum; rw [if_pos rfl]; exact snum_here h hm hm'
theorem drop_le {s : ByteArray} {p : Nat} {l r : List UInt8} (h : (bs s).drop p = l ++ r) (hp : p ≤ s.size) : p + l.length ≤ s.size := by
  have := congrArg List.length h
  rw [List.length_drop, bs_length, List.length_append] at this
  omega
theorem drop_on {s : ByteArray} {p : Nat} {l r : List UInt8} (h : (bs s).drop p = l ++ r) : (bs s).drop (p + l.length) = r := by
  rw [← List.drop_drop, h, List.drop_left' rfl]
theorem xfix_here {s : ByteArray} {p : Nat} {t r : List UInt8} (h : (bs s).drop p = t ++ r) (hp : p ≤ s.size) :
    xfix s (p : Int) 0 (t.length : Int) = (sb t, ((p + t.length : Nat) : Int), 0) := by
  unfold xfix; rw [if_pos rfl]; exact sfix_here h hp
theorem xtext_here {s : ByteArray} {p : Nat} {t r : List UInt8} {most : Int} (h : (bs s).drop p = vb t.length ++ (t ++ r)) (hp : p ≤ s.size) (hm : (t.length : Int) ≤ most) (hm' : most ≤ 9223372036854775807) :
    xtext s (p : Int) 0 most = (sb t, ((p + (vb t.length).length + t.length : Nat) : Int), 0) := by
  unfold xtext
  rw [xnum_here h hm hm']
  exact xfix_here (drop_on h) (drop_le h hp)
theorem xbyte_here {s : ByteArray} {p : Nat} {c : UInt8} {r : List UInt8} (h : (bs s).drop p = c :: r) : xbyte s (p : Int) 0 = ((c.toNat : Int), ((p + 1 : Nat) : Int), 0) := by
  have hl : p < (bs s).length := by
    rcases Nat.lt_or_ge p (bs s).length with g | g
    · exact g
    · rw [List.drop_of_length_le g] at h; cases h
  unfold xbyte
  rw [List.drop_eq_getElem_cons hl] at h
  injection h with h1 h2
  rw [if_pos rfl, if_pos (by rw [bs_length] at hl; omega), bt_bs s p hl, h1]; rfl
end Go.Proofs.YtikdbklmhjlfoaaDoor.M
