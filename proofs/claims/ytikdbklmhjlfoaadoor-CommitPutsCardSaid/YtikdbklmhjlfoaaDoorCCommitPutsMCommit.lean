/- A commit's text (layer 35): what it is, what is read of any text. No program in sight. -/
import Derived.Test.YtikdbklmhjlfoaaDoorCCommitPutsMSpan
set_option linter.unusedVariables false
namespace Go.Proofs.YtikdbklmhjlfoaaDoor.M
open Go.RowKit Go.Proofs.YtikdbklmhjlfoaaDoorW.PrintWords Go.Proofs.YtikdbklmhjlfoaaDoorW.PrintMore

/-- May a commit be? -/
def isC (n : Int) (ps : List ByteArray) (g note : ByteArray) : Prop :=
  (1 ≤ n ∧ n ≤ 4294967295) ∧ ps.length ≤ 2 ∧ g.size = 32 ∧ note.size ≤ 40 ∧ (∀ p ∈ ps, p.size = 32) ∧ (ps.length = 2 → ps.getD 0 ByteArray.empty ≠ ps.getD 1 ByteArray.empty)
instance (n : Int) (ps : List ByteArray) (g note : ByteArray) : Decidable (isC n ps g note) := inferInstanceAs (Decidable (_ ∧ _))
/-- A commit's text. -/
def cput (n : Int) (ps : List ByteArray) (g note : ByteArray) : List UInt8 :=
  [67] ++ (vb n.toNat ++ (vb ps.length ++ (ps.flatMap bs ++ (bs g ++ (vb note.size ++ bs note)))))
/-- So many names that are read. -/
def cfixes (s : ByteArray) : Nat → Int → Int → List ByteArray × Int × Int
  | 0, p, er => ([], p, er)
  | n + 1, p, er => ((xfix s p er 32).1 :: (cfixes s n (xfix s p er 32).2.1 (xfix s p er 32).2.2).1, (cfixes s n (xfix s p er 32).2.1 (xfix s p er 32).2.2).2)
/-- What is read of a text: the number, the parents, the graph, the note; the place and the error behind. -/
def cN (s : ByteArray) : Int × Int × Int := xnum s (xbyte s 0 0).2.1 (xbyte s 0 0).2.2 4294967295
def cM (s : ByteArray) : Int × Int × Int := xnum s (cN s).2.1 (cN s).2.2 2
def cP (s : ByteArray) : List ByteArray × Int × Int := cfixes s (cM s).1.toNat (cM s).2.1 (cM s).2.2
def cG (s : ByteArray) : ByteArray × Int × Int := xfix s (cP s).2.1 (cP s).2.2 32
def cT (s : ByteArray) : ByteArray × Int × Int := xtext s (cG s).2.1 (cG s).2.2 40
theorem sok0 {s : ByteArray} (h : s.size ≤ 9223372036854775807) : sok s 0 := ⟨by decide, by omega, h⟩
theorem cN_ok {s : ByteArray} (h : s.size ≤ 9223372036854775807) : sok s (cN s).2.1 := xnum_ok s _ _ (xbyte_ok s 0 (sok0 h))
theorem cM_ok {s : ByteArray} (h : s.size ≤ 9223372036854775807) : sok s (cM s).2.1 := xnum_ok s _ _ (cN_ok h)
theorem cM_range {s : ByteArray} (h : s.size ≤ 9223372036854775807) : 0 ≤ (cM s).1 ∧ (cM s).1 ≤ 2 := xnum_range s (cN_ok h) (by decide) (by decide)
theorem cfixes_here {s : ByteArray} : ∀ (ps : List ByteArray) (p : Nat) (r : List UInt8), (∀ x ∈ ps, x.size = 32) → p ≤ s.size → (bs s).drop p = ps.flatMap bs ++ r →
    cfixes s ps.length (p : Int) 0 = (ps, ((p + (ps.flatMap bs).length : Nat) : Int), 0)
  | [], p, r, _, _, _ => by simp [cfixes]
  | x :: l, p, r, hx, hp, h => by
    rw [List.flatMap_cons, List.append_assoc] at h
    have x1 := xfix_here h hp
    rw [bs_length, hx x List.mem_cons_self] at x1
    have h1 := drop_on h
    have p1 := drop_le h hp
    rw [bs_length, hx x List.mem_cons_self] at h1 p1
    have ih := cfixes_here l _ r (fun y hy => hx y (List.mem_cons_of_mem _ hy)) p1 h1
    rw [List.length_cons, cfixes]
    rw [show ((32 : Nat) : Int) = 32 from rfl] at x1
    rw [x1]
    simp only
    rw [ih, sb_bs, List.flatMap_cons, List.length_append, bs_length, hx x List.mem_cons_self, Nat.add_assoc]
/-- A commit's text is read as it. -/
theorem cread_back {n : Int} {ps : List ByteArray} {g note : ByteArray} (h : isC n ps g note) (s : ByteArray) (hs : bs s = cput n ps g note) :
    (xbyte s 0 0).1 = 67 ∧ (cN s).1 = n ∧ (cP s).1 = ps ∧ (cG s).1 = g ∧ (cT s).1 = note ∧ (cT s).2.2 = 0 ∧ (cT s).2.1 = s.size := by
  obtain ⟨⟨hn0, hn1⟩, hp2, hg, hnote, hps, _⟩ := h
  unfold cput at hs
  have hz := bs_length s
  have d0 : (bs s).drop 0 = 67 :: (vb n.toNat ++ (vb ps.length ++ (ps.flatMap bs ++ (bs g ++ (vb note.size ++ bs note))))) := by rw [hs]; rfl
  have x0 := xbyte_here d0
  rw [show ((0 : Nat) : Int) = 0 from rfl] at x0
  have d1 : (bs s).drop 1 = vb n.toNat ++ (vb ps.length ++ (ps.flatMap bs ++ (bs g ++ (vb note.size ++ bs note)))) := by rw [hs]; rfl
  have p1 : 1 ≤ s.size := by rw [← hz, hs]; simp
  have x1 := xnum_here (most := 4294967295) d1 (by omega) (by decide)
  have d2 := drop_on d1
  have p2 := drop_le d1 p1
  have x2 := xnum_here (most := 2) d2 (by omega) (by decide)
  have d3 := drop_on d2
  have p3 := drop_le d2 p2
  have x3 := cfixes_here ps _ _ hps p3 d3
  have d4 := drop_on d3
  have p4 := drop_le d3 p3
  have x4 := xfix_here d4 p4
  rw [bs_length, hg] at x4
  have d5 := drop_on d4
  have p5 := drop_le d4 p4
  rw [bs_length, hg] at d5 p5
  rw [show vb note.size ++ bs note = vb (bs note).length ++ (bs note ++ []) by rw [List.append_nil, bs_length]] at d5
  have x5 := xtext_here (most := 40) d5 p5 (by rw [bs_length]; omega) (by decide)
  have eN := (show cN s = xnum s ((1 : Nat) : Int) 0 4294967295 by unfold cN; rw [x0] <;> rfl).trans x1
  have eM := (show cM s = xnum s ((1 + (vb n.toNat).length : Nat) : Int) 0 2 by unfold cM; rw [eN] <;> rfl).trans x2
  have eP := (show cP s = cfixes s ps.length ((1 + (vb n.toNat).length + (vb ps.length).length : Nat) : Int) 0 by unfold cP; rw [eM] <;> rfl).trans x3
  have eG := (show cG s = xfix s ((1 + (vb n.toNat).length + (vb ps.length).length + (ps.flatMap bs).length : Nat) : Int) 0 ((32 : Nat) : Int) by unfold cG; rw [eP] <;> rfl).trans x4
  have eT := (show cT s = xtext s ((1 + (vb n.toNat).length + (vb ps.length).length + (ps.flatMap bs).length + 32 : Nat) : Int) 0 40 by unfold cT; rw [eG] <;> rfl).trans x5
  refine ⟨by rw [x0]; rfl, by rw [eN]; simp only; omega, by rw [eP], by rw [eG]; exact sb_bs g, by rw [eT]; exact sb_bs note, by rw [eT], ?_⟩
  rw [eT, ← hz, hs]
  simp only [List.length_append, List.length_cons, List.length_nil, bs_length, hg]
  omega
/-- Whether a text is a commit's. -/
def cgood (s : ByteArray) : Prop := (xbyte s 0 0).1 = 67 ∧ xend s (cT s).2.1 (cT s).2.2 = 0 ∧ isC (cN s).1 (cP s).1 (cG s).1 (cT s).1
instance (s : ByteArray) : Decidable (cgood s) := inferInstanceAs (Decidable (_ ∧ _))
theorem cgood_back {n : Int} {ps : List ByteArray} {g note : ByteArray} (h : isC n ps g note) : cgood (sb (cput n ps g note)) ∧ (cN (sb (cput n ps g note))).1 = n ∧ (cP (sb (cput n ps g note))).1 = ps ∧ (cG (sb (cput n ps g note))).1 = g ∧ (cT (sb (cput n ps g note))).1 = note := by
  obtain ⟨h1, h2, h3, h4, h5, h6, h7⟩ := cread_back h (sb (cput n ps g note)) (bs_sb _)
  refine ⟨⟨h1, ?_, ?_⟩, h2, h3, h4, h5⟩
  · unfold xend
    rw [if_neg (by omega)]; exact h6
  · rw [h2, h3, h4, h5]; exact h
theorem cput_size {n : Int} {ps : List ByteArray} {g note : ByteArray} (h : isC n ps g note) : (sb (cput n ps g note)).size ≤ 1000 := by
  obtain ⟨⟨hn0, hn1⟩, hp2, hg, hnote, hps, _⟩ := h
  have hv := vb_le n.toNat (by omega)
  have hv2 := vb_le ps.length (by omega)
  have hv3 := vb_le note.size (by omega)
  have hf : ∀ (l : List ByteArray), (∀ p ∈ l, p.size = 32) → (l.flatMap bs).length = 32 * l.length := by
    intro l
    induction l with
    | nil => intro _; rfl
    | cons a l ih =>
      intro h
      rw [List.flatMap_cons, List.length_append, ih (fun p hp => h p (List.mem_cons_of_mem _ hp)), bs_length, h a List.mem_cons_self, List.length_cons]; omega
  rw [size_sb]
  unfold cput
  simp only [List.length_append, List.length_cons, List.length_nil, hf ps hps, bs_length]
  omega
end Go.Proofs.YtikdbklmhjlfoaaDoor.M
