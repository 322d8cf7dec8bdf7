/- Pieces of a text (layer 11). No program in sight. -/
import Derived.Test.YtadpicphohobbaaMSpan
import Derived.Test.YtadpicphohobbaaMAlike
namespace Go.Proofs.Ytadpicphohobbaa.M
open Go.RowKit Go.Proofs.YtadpicphohobbaaW.PrintWords Go.Proofs.YtadpicphohobbaaW.PrintMore
/-- A piece: is it copied, whence, how many bytes, its own. -/
abbrev Pc := Bool × Int × Int × ByteArray
/-- May a piece be? -/
def pok (c : Bool) (a n : Int) (o : ByteArray) : Bool := decide (1 ≤ n ∧ n ≤ 65536) && (if c = true then decide (0 ≤ a ∧ a ≤ 65536 ∧ o.size = 0) else decide (a = 0 ∧ (o.size : Int) = n))
def pk (p : Pc) : Bool := pok p.1 p.2.1 p.2.2.1 p.2.2.2
theorem pok_copy {a n : Int} {o : ByteArray} (h : pok true a n o = true) : 1 ≤ n ∧ n ≤ 65536 ∧ 0 ≤ a ∧ a ≤ 65536 ∧ o.size = 0 := by
  unfold pok at h; simp only [if_true, Bool.and_eq_true, decide_eq_true_eq] at h; omega
theorem pok_own {a n : Int} {o : ByteArray} (h : pok false a n o = true) : 1 ≤ n ∧ n ≤ 65536 ∧ a = 0 ∧ (o.size : Int) = n := by
  unfold pok at h; simp only [Bool.false_eq_true, if_false, Bool.and_eq_true, decide_eq_true_eq] at h; omega
theorem pok_copy_mk {a n : Int} (h1 : 1 ≤ n) (h2 : n ≤ 65536) (h3 : 0 ≤ a) (h4 : a ≤ 65536) : pok true a n ⟨#[]⟩ = true := by
  unfold pok; simp only [if_true, Bool.and_eq_true, decide_eq_true_eq]; exact ⟨⟨h1, h2⟩, h3, h4, rfl⟩
theorem pok_own_mk {n : Int} {o : ByteArray} (h1 : 1 ≤ n) (h2 : n ≤ 65536) (h3 : (o.size : Int) = n) : pok false 0 n o = true := by
  unfold pok; simp only [Bool.false_eq_true, if_false, Bool.and_eq_true, decide_eq_true_eq]; exact ⟨⟨h1, h2⟩, trivial, h3⟩
theorem pok_len {c : Bool} {a n : Int} {o : ByteArray} (h : pok c a n o = true) : 1 ≤ n ∧ n ≤ 65536 := by
  cases c
  · have := pok_own h; omega
  · have := pok_copy h; omega
/-- A piece's bytes. -/
def pput (p : Pc) : List UInt8 := if p.1 = true then vb (2 * p.2.2.1 + 1).toNat ++ vb p.2.1.toNat else vb (2 * p.2.2.1).toNat ++ bs p.2.2.2
def psum : List Pc → Nat
  | [] => 0
  | p :: ps => min p.2.2.2.size 65536 + 40 + psum ps
theorem psum_le : ∀ l : List Pc, psum l ≤ 65576 * l.length
  | [] => Nat.le_refl _
  | p :: ps => by have := psum_le ps; simp only [psum, List.length_cons]; omega
theorem pput_le {p : Pc} (h : pk p = true) : (pput p).length ≤ min p.2.2.2.size 65536 + 40 := by
  obtain ⟨c, a, n, o⟩ := p
  unfold pput
  cases c with
  | false =>
    have h : pok false a n o = true := h
    have := pok_own h
    have h1 := vb_le (2 * n).toNat (by omega)
    simp only [Bool.false_eq_true, if_false, List.length_append, bs_length]
    rw [Nat.min_eq_left (by omega)]; omega
  | true =>
    have h : pok true a n o = true := h
    have := pok_copy h
    have h1 := vb_le (2 * n + 1).toNat (by omega)
    have h2 := vb_le a.toNat (by omega)
    simp only [if_true, List.length_append]; omega
/-- Pieces' bytes; none where one may not be. -/
def dput : List Pc → Option (List UInt8)
  | [] => some []
  | p :: ps => if pk p = true then (dput ps).map (pput p ++ ·) else none
theorem dput_nil : dput [] = some [] := rfl
theorem dput_ok {p : Pc} {ps : List Pc} (h : pk p = true) : dput (p :: ps) = (dput ps).map (pput p ++ ·) := by rw [dput, if_pos h]
theorem dput_no {p : Pc} {ps : List Pc} (h : ¬ pk p = true) : dput (p :: ps) = none := by rw [dput, if_neg h]
theorem dput_all : ∀ {l : List Pc} {b : List UInt8}, dput l = some b → ∀ p ∈ l, pk p = true
  | [], _, _, _, h => by cases h
  | p :: ps, b, h, q, hq => by
    by_cases hp : pk p = true
    · rw [dput_ok hp] at h
      obtain ⟨b', hb, _⟩ := Option.map_eq_some_iff.1 h
      rcases List.mem_cons.1 hq with rfl | hq
      · exact hp
      · exact dput_all hb q hq
    · rw [dput_no hp] at h; cases h
theorem dput_some : ∀ {l : List Pc}, (∀ p ∈ l, pk p = true) → ∃ b, dput l = some b
  | [], _ => ⟨[], rfl⟩
  | p :: ps, h => by
    obtain ⟨b, hb⟩ := dput_some (l := ps) (fun q hq => h q (List.mem_cons_of_mem _ hq))
    exact ⟨_, by rw [dput_ok (h p List.mem_cons_self), hb]; rfl⟩
theorem dput_len : ∀ {l : List Pc} {b : List UInt8}, dput l = some b → b.length ≤ psum l
  | [], b, h => by simp [dput] at h; subst h; simp
  | p :: ps, b, h => by
    by_cases hp : pk p = true
    · rw [dput_ok hp] at h
      obtain ⟨b', hb, rfl⟩ := Option.map_eq_some_iff.1 h
      have := dput_len hb
      have := pput_le hp
      simp only [List.length_append, psum]; omega
    · rw [dput_no hp] at h; cases h
/-- The text that pieces make of a base. -/
def djoin (base : ByteArray) : List UInt8 → List Pc → List UInt8 × Int
  | acc, [] => (acc, 0)
  | acc, p :: ps =>
    if pk p = true then
      (if (acc.length : Int) + p.2.2.1 > 65536 then ([], 5)
      else if p.1 = true then (if p.2.1 + p.2.2.1 > (base.size : Int) then ([], 8) else djoin base (acc ++ ((bs base).drop p.2.1.toNat).take p.2.2.1.toNat) ps)
      else djoin base (acc ++ bs p.2.2.2) ps)
    else ([], 2)
theorem djoin_len (base : ByteArray) : ∀ (l : List Pc) (acc : List UInt8), acc.length ≤ 65536 → (djoin base acc l).1.length ≤ 65536
  | [], acc, h => h
  | p :: ps, acc, h => by
    rw [djoin]
    split
    · rename_i hp
      split
      · simp
      · split
        · split
          · simp
          · refine djoin_len base ps _ ?_
            have := pok_len hp
            rw [List.length_append, List.length_take]; omega
        · rename_i h1 h2
          refine djoin_len base ps _ ?_
          have : p.1 = false := by simpa using h2
          have hq : pok false p.2.1 p.2.2.1 p.2.2.2 = true := by rw [← this]; exact hp
          have := pok_own hq
          rw [List.length_append, bs_length]; omega
    · simp
/-- One piece of bytes, and where it ends. -/
def dstep (s : ByteArray) (p : Int) : Option (Pc × Int) :=
  if (xnum s p 0 4294967295).1 % 2 = 1 then
    (if (xnum s (xnum s p 0 4294967295).2.1 (xnum s p 0 4294967295).2.2 4294967295).2.2 = 0 ∧ pok true (xnum s (xnum s p 0 4294967295).2.1 (xnum s p 0 4294967295).2.2 4294967295).1 ((xnum s p 0 4294967295).1 / 2) ⟨#[]⟩ = true then
      some ((true, (xnum s (xnum s p 0 4294967295).2.1 (xnum s p 0 4294967295).2.2 4294967295).1, (xnum s p 0 4294967295).1 / 2, ⟨#[]⟩), (xnum s (xnum s p 0 4294967295).2.1 (xnum s p 0 4294967295).2.2 4294967295).2.1) else none)
  else
    (if (xfix s (xnum s p 0 4294967295).2.1 (xnum s p 0 4294967295).2.2 ((xnum s p 0 4294967295).1 / 2)).2.2 = 0 ∧ pok false 0 ((xnum s p 0 4294967295).1 / 2) (xfix s (xnum s p 0 4294967295).2.1 (xnum s p 0 4294967295).2.2 ((xnum s p 0 4294967295).1 / 2)).1 = true then
      some ((false, 0, (xnum s p 0 4294967295).1 / 2, (xfix s (xnum s p 0 4294967295).2.1 (xnum s p 0 4294967295).2.2 ((xnum s p 0 4294967295).1 / 2)).1), (xfix s (xnum s p 0 4294967295).2.1 (xnum s p 0 4294967295).2.2 ((xnum s p 0 4294967295).1 / 2)).2.1) else none)
/-- The pieces of bytes from a place on. -/
def dtake (s : ByteArray) : Nat → Int → Option (List Pc)
  | 0, _ => none
  | f + 1, p => if p < (s.size : Int) then (match dstep s p with | none => none | some (x, q) => (dtake s f q).map (x :: ·)) else some []
theorem xnum_on {s : ByteArray} {p er most : Int} (h : sok s p) : p ≤ (xnum s p er most).2.1 := by
  have := vget_at s h
  unfold xnum snum
  split
  · split
    · split
      · simp
      · simp only; omega
    · simp
  · simp
theorem xnum_go {s : ByteArray} {p er most : Int} (h : sok s p) (he : (xnum s p er most).2.2 = 0) : p < (xnum s p er most).2.1 := by
  obtain ⟨_, ⟨_, h2, _⟩, _⟩ := xnum_span h he
  have := vb_pos (xnum s p er most).1.toNat
  omega
theorem dstep_span {s : ByteArray} {p q : Int} {x : Pc} (h : sok s p) (he : dstep s p = some (x, q)) : pk x = true ∧ p < q ∧ sok s q ∧ span s p q (pput x) := by
  unfold dstep at he
  have k1 := xnum_ok s 0 4294967295 h
  split at he
  · rename_i hodd
    split at he
    · rename_i hh
      obtain ⟨h1, h2⟩ := hh
      have k2 := xnum_ok s (xnum s p 0 4294967295).2.2 4294967295 k1
      obtain ⟨e1, s1, _⟩ := xnum_span k1 h1
      obtain ⟨e2, s2, l2, _⟩ := xnum_span h e1
      have g1 := xnum_go h e1
      have g2 := xnum_on (er := (xnum s p 0 4294967295).2.2) (most := 4294967295) k1
      simp only [Option.some.injEq, Prod.mk.injEq] at he
      obtain ⟨rfl, rfl⟩ := he
      refine ⟨h2, by omega, k2, ?_⟩
      have := span_trans s2 s1
      unfold pput
      simp only [if_true]
      rw [show 2 * ((xnum s p 0 4294967295).1 / 2) + 1 = (xnum s p 0 4294967295).1 from by omega]
      exact this
    · cases he
  · rename_i hodd
    split at he
    · rename_i hh
      obtain ⟨h1, h2⟩ := hh
      have k2 := xfix_ok s (xnum s p 0 4294967295).2.2 ((xnum s p 0 4294967295).1 / 2) k1
      obtain ⟨e1, s1, z1⟩ := xfix_span k1 h1
      obtain ⟨e2, s2, l2, _⟩ := xnum_span h e1
      have g1 := xnum_go h e1
      have g2 := s1.2.1
      simp only [Option.some.injEq, Prod.mk.injEq] at he
      obtain ⟨rfl, rfl⟩ := he
      refine ⟨h2, by omega, k2, ?_⟩
      have := span_trans s2 s1
      unfold pput
      simp only [Bool.false_eq_true, if_false]
      rw [show 2 * ((xnum s p 0 4294967295).1 / 2) = (xnum s p 0 4294967295).1 from by omega]
      exact this
    · cases he
theorem dstep_here {s : ByteArray} {p : Nat} {x : Pc} {r : List UInt8} (hp : p ≤ s.size) (hx : pk x = true) (h : (bs s).drop p = pput x ++ r) : dstep s (p : Int) = some (x, ((p + (pput x).length : Nat) : Int)) := by
  obtain ⟨c, a, n, o⟩ := x
  cases c with
  | true =>
    have hx : pok true a n o = true := hx
    have hc := pok_copy hx
    have ho : o = ⟨#[]⟩ := bs_inj (List.eq_nil_of_length_eq_zero (by rw [bs_length]; omega))
    subst ho
    obtain ⟨m, rfl⟩ := Int.eq_ofNat_of_zero_le (show 0 ≤ n by omega)
    obtain ⟨b, rfl⟩ := Int.eq_ofNat_of_zero_le (show 0 ≤ a by omega)
    have e : pput (true, (b : Int), (m : Int), (⟨#[]⟩ : ByteArray)) = vb (2 * m + 1) ++ vb b := by
      unfold pput; simp only [if_true, Int.toNat_natCast]; congr 2
    rw [e, List.append_assoc] at h
    have h1 := xnum_here (most := 4294967295) h (by omega) (by omega)
    have h2 := xnum_here (most := 4294967295) (drop_on h) (by omega) (by omega)
    unfold dstep
    rw [h1]
    simp only
    rw [h2, if_pos (by omega), show ((2 * m + 1 : Nat) : Int) / 2 = (m : Int) from by omega, if_pos ⟨rfl, hx⟩, e, List.length_append, Nat.add_assoc]
  | false =>
    have hx : pok false a n o = true := hx
    have hc := pok_own hx
    obtain ⟨m, rfl⟩ := Int.eq_ofNat_of_zero_le (show 0 ≤ n by omega)
    obtain rfl : a = 0 := hc.2.2.1
    have e : pput (false, 0, (m : Int), o) = vb (2 * m) ++ bs o := by
      unfold pput; simp only [Bool.false_eq_true, if_false]; congr 2
    rw [e, List.append_assoc] at h
    have h1 := xnum_here (most := 4294967295) h (by omega) (by omega)
    have h2 := xfix_here (drop_on h) (drop_le h hp)
    rw [bs_length] at h2
    unfold dstep
    rw [h1]
    simp only
    rw [show ((2 * m : Nat) : Int) / 2 = (o.size : Int) from by omega, h2, if_neg (by omega), if_pos ⟨rfl, by rw [sb_bs, hc.2.2.2]; exact hx⟩, e, List.length_append, bs_length, Nat.add_assoc, sb_bs, hc.2.2.2]
theorem dtake_here {s : ByteArray} : ∀ (l : List Pc) {p : Nat} {b : List UInt8} (f : Nat), p ≤ s.size → dput l = some b → (bs s).drop p = b → l.length < f → dtake s f (p : Int) = some l
  | [], p, b, f, hp, hb, h, hf => by
    obtain ⟨f, rfl⟩ : ∃ g, f = g + 1 := ⟨f - 1, by simp at hf; omega⟩
    have : b = [] := by simpa [dput] using hb.symm
    subst this
    have hl : (bs s).length ≤ p := by simpa using h
    rw [bs_length] at hl
    rw [dtake, if_neg (by omega)]
  | x :: l, p, b, f, hp, hb, h, hf => by
    obtain ⟨f, rfl⟩ : ∃ g, f = g + 1 := ⟨f - 1, by simp at hf; omega⟩
    have hx := dput_all hb x List.mem_cons_self
    rw [dput_ok hx] at hb
    obtain ⟨b', hb', rfl⟩ := Option.map_eq_some_iff.1 hb
    have hs := dstep_here hp hx h
    have hlt := (dstep_span (s := s) (p := (p : Int)) (x := x) (q := ((p + (pput x).length : Nat) : Int)) · hs)
    have hle := drop_le h hp
    have hpos : 0 < (pput x).length := by
      unfold pput; split <;> rw [List.length_append] <;> first | (have := vb_pos (2 * x.2.2.1 + 1).toNat; omega) | (have := vb_pos (2 * x.2.2.1).toNat; omega)
    rw [dtake, if_pos (by omega), hs]
    simp only
    rw [dtake_here l f hle hb' (drop_on h) (by simp at hf; omega)]
    rfl
theorem dtake_more {s : ByteArray} : ∀ (f g : Nat) (p : Int), sok s p → (s.size : Int) - p < f → f ≤ g → dtake s g p = dtake s f p
  | 0, g, p, h, h1, _ => by have := h.2.1; omega
  | f + 1, g, p, h, h1, h2 => by
    obtain ⟨g, rfl⟩ : ∃ k, g = k + 1 := ⟨g - 1, by omega⟩
    rw [dtake, dtake]
    split
    · cases hd : dstep s p with
      | none => rfl
      | some x =>
        obtain ⟨x, q⟩ := x
        have hq := dstep_span h hd
        simp only
        rw [dtake_more f g q hq.2.2.1 (by omega) (by omega)]
    · rfl
theorem dtake_len {s : ByteArray} : ∀ (f : Nat) (p : Int) (l : List Pc), sok s p → dtake s f p = some l → (l.length : Int) ≤ (s.size : Int) - p ∧ (∀ x ∈ l, pk x = true)
  | 0, p, l, h, h1 => by cases h1
  | f + 1, p, l, h, h1 => by
    rw [dtake] at h1
    have hp := h.2.1
    split at h1
    · cases hd : dstep s p with
      | none => rw [hd] at h1; cases h1
      | some x =>
        obtain ⟨x, q⟩ := x
        rw [hd] at h1
        obtain ⟨l', hl', rfl⟩ := Option.map_eq_some_iff.1 h1
        have hq := dstep_span h hd
        have := dtake_len f q l' hq.2.2.1 hl'
        refine ⟨by rw [List.length_cons]; omega, fun y hy => ?_⟩
        rcases List.mem_cons.1 hy with rfl | hy
        · exact hq.1
        · exact this.2 y hy
    · cases h1
      exact ⟨by simp; omega, fun y hy => by cases hy⟩
theorem dtake_go {s : ByteArray} {f : Nat} {p : Int} (h : p < (s.size : Int)) : dtake s (f + 1) p = (dstep s p).bind fun y => (dtake s f y.2).map (y.1 :: ·) := by
  rw [dtake, if_pos h]
  cases dstep s p <;> rfl
/-- A number read under a lower bound. -/
theorem xnum_low {s : ByteArray} {p er m1 m2 : Int} (h : m1 ≤ m2) (h0 : 0 ≤ m1) :
    ((xnum s p er m1).2.2 = 0 → xnum s p er m2 = xnum s p er m1) ∧ ((xnum s p er m1).2.2 ≠ 0 → (xnum s p er m2).2.2 ≠ 0 ∨ m1 < (xnum s p er m2).1) := by
  unfold xnum
  by_cases he : er = 0
  · simp only [if_pos he]
    unfold snum
    by_cases hb : (vget (s.extract p.toNat s.size)).2.2 = true
    · simp only [if_pos hb]
      by_cases h1 : m1 < 0 ∨ m1 < (vget (s.extract p.toNat s.size)).1
      · simp only [if_pos h1]
        refine ⟨(fun z => by cases z), fun _ => ?_⟩
        split
        · exact .inl (by simp)
        · exact .inr (by simp only; omega)
      · simp only [if_neg h1]
        refine ⟨fun _ => ?_, fun z => absurd rfl z⟩
        rw [if_neg (by omega)]
    · simp only [if_neg hb]
      exact ⟨(fun z => by cases z), fun _ => .inl (by simp)⟩
  · simp only [if_neg he]
    exact ⟨fun z => absurd z he, fun z => .inl z⟩
end Go.Proofs.Ytadpicphohobbaa.M
