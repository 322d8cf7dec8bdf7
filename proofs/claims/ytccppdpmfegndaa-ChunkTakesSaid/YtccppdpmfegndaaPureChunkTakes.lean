/- The law ChunkTakes: of any text of at most 5,000 bytes, the chunk that the program takes is the document's, and so is whether there is one. No further condition. -/
import Derived.Test.YtccppdpmfegndaaEChunkTakesx12
namespace Go.Proofs.Ytccppdpmfegndaa.Pure
open Go.RowKit Go.Proofs.Ytccppdpmfegndaa.EChunkTakes Go.Proofs.YtccppdpmfegndaaW.PrintWords Go.Proofs.YtccppdpmfegndaaW.PrintLast Go.Proofs.YtccppdpmfegndaaW.PrintMore
theorem awake : pleachlaw19_awake.f = some true := by
  have hw : chunk_fits.wrong 0 [] [] = 0 := by decide
  have ht : chunk_fits.text 0 [] [] = [76, 0] := by unfold chunk_fits.text; rw [if_neg (by decide)]; rfl
  unfold pleachlaw19_awake.f chunk_Put.f
  rw [if_pos (by decide), if_pos hw, ht, Option.bind_some, M.toList_bs, M.bs_sb, if_pos rfl]; rfl

theorem read_here (s : ByteArray) (lv : Int) : ∀ (es : List S29) (cs : List Int) (p : Nat) (r : List UInt8), (∀ e ∈ es, chunk_fits.ok lv e.f0 e.f1 = true) → (lv > 0 → cs.length = es.length ∧ ∀ n ∈ cs, 1 ≤ n ∧ n ≤ 2147483648) → (¬ lv > 0 → cs = []) → p ≤ s.size →
    (M.bs s).drop p = chunk_fits.enc lv es cs ++ r → chunk_fits.read s lv es.length (p : Int) 0 = (es, cs, ((p + (chunk_fits.enc lv es cs).length : Nat) : Int), 0)
  | [], cs, p, r, _, hc, h0, _, _ => by
    have : cs = [] := by
      by_cases hl : lv > 0
      · exact List.eq_nil_of_length_eq_zero (hc hl).1
      · exact h0 hl
    subst this
    simp [chunk_fits.read, chunk_fits.enc]
  | e :: l, cs, p, r, hk, hc, h0, hp, h => by
    have he := hk e List.mem_cons_self
    unfold chunk_fits.ok at he
    have he := of_decide_eq_true he
    have b0 := M.bs_length e.f0
    have b1 := M.bs_length e.f1
    by_cases hl : lv > 0
    · obtain ⟨hcl, hcr⟩ := hc hl
      obtain ⟨c, ct, rfl⟩ : ∃ c ct, cs = c :: ct := by
        cases cs with
        | nil => simp at hcl
        | cons c ct => exact ⟨c, ct, rfl⟩
      have hcc := hcr c List.mem_cons_self
      rw [if_pos hl] at he
      simp only [chunk_fits.enc, if_pos hl, List.headD_cons, List.tail_cons, List.append_assoc] at h
      rw [← b0] at h
      have x1 := M.xtext_here (most := 64) h hp (by omega) (by decide)
      have h1 := M.drop_on h
      have p1 := M.drop_le h hp
      have h2 := M.drop_on h1
      have p2 := M.drop_le h1 p1
      have x2 := M.xfix_here h2 p2
      have h3 := M.drop_on h2
      have p3 := M.drop_le h2 p2
      have x3 := M.xnum_here (most := 2147483648) h3 (by omega) (by decide)
      have h4 := M.drop_on h3
      have p4 := M.drop_le h3 p3
      have ih := read_here s lv l ct _ r (fun x hx => hk x (List.mem_cons_of_mem _ hx)) (fun _ => ⟨by simpa using hcl, fun n hn => hcr n (List.mem_cons_of_mem _ hn)⟩) (fun z => absurd hl z) p4 h4
      rw [show ((M.bs e.f1).length : Int) = 32 from by omega] at x2
      rw [List.length_cons, chunk_fits.read, if_pos hl]
      simp only [x1, x2, x3, ih, M.sb_bs, chunk_fits.enc, if_pos hl, List.headD_cons, List.tail_cons]
      rw [show (c.toNat : Int) = c from by omega]
      congr 3
      simp only [List.length_append, ← b0]
      congr 1
      omega
    · have := h0 hl
      subst this
      rw [if_neg hl] at he
      simp only [chunk_fits.enc, if_neg hl, List.tail_nil, List.append_assoc] at h
      rw [← b0, ← b1] at h
      have x1 := M.xtext_here (most := 64) h hp (by omega) (by decide)
      have h1 := M.drop_on h
      have p1 := M.drop_le h hp
      have h2 := M.drop_on h1
      have p2 := M.drop_le h1 p1
      have x2 := M.xtext_here (most := 2048) h2 p2 (by omega) (by decide)
      have h3 := M.drop_on h2
      have p3 := M.drop_le h2 p2
      have h4 := M.drop_on h3
      have p4 := M.drop_le h3 p3
      have ih := read_here s lv l [] _ r (fun x hx => hk x (List.mem_cons_of_mem _ hx)) (fun z => absurd z hl) (fun _ => rfl) p4 h4
      rw [List.length_cons, chunk_fits.read, if_neg hl]
      simp only [x1, x2, ih, M.sb_bs, chunk_fits.enc, if_neg hl, List.tail_nil]
      congr 3
      simp only [List.length_append, ← b0, ← b1]
      congr 1
      omega

theorem read_span (s : ByteArray) (lv : Int) : ∀ (n : Nat) (p er : Int), M.sok s p → (chunk_fits.read s lv n p er).2.2.2 = 0 →
    er = 0 ∧ M.span s p (chunk_fits.read s lv n p er).2.2.1 (chunk_fits.enc lv (chunk_fits.read s lv n p er).1 (chunk_fits.read s lv n p er).2.1) ∧ (chunk_fits.read s lv n p er).1.length = n
  | 0, p, er, hs, h => ⟨h, M.span_nil s hs.1, rfl⟩
  | n + 1, p, er, hs, h => by
    have hk := M.xtext_ok s er 64 hs
    rw [chunk_fits.read] at h ⊢
    by_cases hl : lv > 0
    · rw [if_pos hl] at h ⊢
      have hv := M.xfix_ok s (M.xtext s p er 64).2.2 32 hk
      have hm := M.xnum_ok s (M.xfix s (M.xtext s p er 64).2.1 (M.xtext s p er 64).2.2 32).2.2 2147483648 hv
      obtain ⟨e3, s3, l3⟩ := read_span s lv n _ _ hm h
      obtain ⟨e2, s2, g0, g1⟩ := M.xnum_span hv e3
      obtain ⟨e1, s1, z1⟩ := M.xfix_span hk e2
      obtain ⟨e0, s0, z0⟩ := M.xtext_span hs e1
      refine ⟨e0, ?_, by simp only [List.length_cons, l3]⟩
      have := M.span_trans s0 (M.span_trans s1 (M.span_trans s2 s3))
      simp only [chunk_fits.enc, if_pos hl, List.headD_cons, List.tail_cons, List.append_assoc] at this ⊢
      exact this
    · rw [if_neg hl] at h ⊢
      have hv := M.xtext_ok s (M.xtext s p er 64).2.2 2048 hk
      obtain ⟨e3, s3, l3⟩ := read_span s lv n _ _ hv h
      obtain ⟨e1, s1, z1⟩ := M.xtext_span hk e3
      obtain ⟨e0, s0, z0⟩ := M.xtext_span hs e1
      refine ⟨e0, ?_, by simp only [List.length_cons, l3]⟩
      have ht : ∀ m, (chunk_fits.read s lv m (M.xtext s (M.xtext s p er 64).2.1 (M.xtext s p er 64).2.2 2048).2.1 (M.xtext s (M.xtext s p er 64).2.1 (M.xtext s p er 64).2.2 2048).2.2).2.1 = [] := fun m => read_leaf s lv hl m _ _
      have := M.span_trans s0 (M.span_trans s1 s3)
      simp only [chunk_fits.enc, if_neg hl, List.append_assoc, ht, List.tail_nil] at this ⊢
      exact this
where
  read_leaf (s : ByteArray) (lv : Int) (hl : ¬ lv > 0) : ∀ (m : Nat) (p er : Int), (chunk_fits.read s lv m p er).2.1 = []
    | 0, _, _ => rfl
    | m + 1, p, er => by rw [chunk_fits.read, if_neg hl]; exact read_leaf s lv hl m _ _

/-- What a chunk's text reads as. -/
theorem take_back {lv : Int} {es : List S29} {cs : List Int} (hw : chunk_fits.wrong lv es cs = 0) : chunk_Take.res (M.sb (chunk_fits.text lv es cs)) = (lv, es, cs, 0) := by
  obtain ⟨hl0, hl1, hl8, hcn, hc0, hok⟩ := chunk_fits.wrong_ok hw
  obtain ⟨s, hs⟩ : ∃ s, s = M.sb (chunk_fits.text lv es cs) := ⟨_, rfl⟩
  have hb : M.bs s = chunk_fits.text lv es cs := by rw [hs, M.bs_sb]
  have hn : ¬ lv > 0 → cs = [] := fun z => hc0 (by omega)
  rw [← hs]
  have hz := M.bs_length s
  have hfin : ∀ (q : Nat) (r : List UInt8), q ≤ s.size → (M.bs s).drop q = M.vb es.length ++ (chunk_fits.enc lv es cs ++ r) → r = [] → chunk_Take.fin s lv (chunk_fits.rest s lv (q : Int) 0) = (lv, es, cs, 0) := by
    intro q r hq h hr
    have x1 := M.xnum_here (most := 8) h (by omega) (by decide)
    have h1 := M.drop_on h
    have p1 := M.drop_le h hq
    have x2 := read_here s lv es cs _ r hok hcn hn p1 h1
    have p2 := M.drop_le h1 p1
    have h2 := M.drop_on h1
    subst hr
    have e2 : s.size ≤ q + (M.vb es.length).length + (chunk_fits.enc lv es cs).length := by
      rw [← hz]; exact List.drop_eq_nil_iff.1 h2
    unfold chunk_Take.fin chunk_fits.rest
    simp only [x1, Int.toNat_natCast, x2]
    rw [if_pos]
    refine ⟨?_, hw⟩
    unfold M.xend
    rw [if_neg]
    intro z
    have := z.2
    omega
  unfold chunk_Take.res
  unfold chunk_fits.text at hb
  by_cases hl : lv > 0
  · rw [if_pos hl] at hb
    have h0 : (M.bs s).drop 0 = 73 :: (M.vb lv.toNat ++ (M.vb es.length ++ (chunk_fits.enc lv es cs ++ []))) := by rw [List.drop_zero, hb]; simp
    have x0 := M.xbyte_here (p := 0) h0
    have h1 : (M.bs s).drop (0 + 1) = M.vb lv.toNat ++ (M.vb es.length ++ (chunk_fits.enc lv es cs ++ [])) := by rw [← List.drop_drop, h0]; rfl
    have p1 : 0 + 1 ≤ s.size := by rw [← hz, hb]; simp
    have x1 := M.xnum_here (most := 40) h1 (by omega) (by decide)
    have h2 := M.drop_on h1
    have p2 := M.drop_le h1 p1
    have x2 := hfin _ _ p2 h2 rfl
    rw [show (lv.toNat : Int) = lv from by omega] at x1
    rw [show ((0 : Nat) : Int) = 0 from rfl] at x0
    simp only [x0, x1, x2]
    rw [if_neg (by decide), if_pos (by decide), if_neg (by omega)]
  · rw [if_neg hl] at hb
    have hlz : lv = 0 := by omega
    have h0 : (M.bs s).drop 0 = 76 :: (M.vb es.length ++ (chunk_fits.enc lv es cs ++ [])) := by rw [List.drop_zero, hb]; simp
    have x0 := M.xbyte_here (p := 0) h0
    have h1 : (M.bs s).drop (0 + 1) = M.vb es.length ++ (chunk_fits.enc lv es cs ++ []) := by rw [← List.drop_drop, h0]; rfl
    have p1 : 0 + 1 ≤ s.size := by rw [← hz, hb]; simp
    have x2 := hfin _ _ p1 h1 rfl
    rw [hlz] at x2 ⊢
    rw [show ((0 : Nat) : Int) = 0 from rfl] at x0
    simp only [x0]
    rw [if_pos (by decide)]
    exact x2

theorem text_size {lv : Int} {es : List S29} {cs : List Int} (hw : chunk_fits.wrong lv es cs = 0) : (chunk_fits.text lv es cs).length ≤ 20000 := by
  obtain ⟨hl0, hl1, hl8, hcn, hc0, hok⟩ := chunk_fits.wrong_ok hw
  have l0 := M.vb_le lv.toNat (by omega)
  have l1 := M.vb_le es.length (by omega)
  have l2 := chunk_fits.enc_len lv es cs hok (by
    intro n hn
    by_cases hl : lv > 0
    · exact ((hcn hl).2 n hn).2
    · rw [hc0 (by omega)] at hn; cases hn)
  unfold chunk_fits.text
  by_cases hl : lv > 0
  · rw [if_pos hl]; simp only [List.length_append, List.length_cons]; omega
  · rw [if_neg hl]; simp only [List.length_append, List.length_cons, List.length_nil]; omega

theorem fin_ok {s : ByteArray} {lv : Int} {r : List S29 × List Int × Int × Int} (h : (chunk_Take.fin s lv r).2.2.2 = 0) : chunk_Take.fin s lv r = (lv, r.1, r.2.1, 0) ∧ r.2.2.2 = 0 ∧ (s.size : Int) ≤ r.2.2.1 ∧ chunk_fits.wrong lv r.1 r.2.1 = 0 := by
  unfold chunk_Take.fin at h ⊢
  split at h
  · rename_i c
    rw [if_pos c]
    have c1 := c.1
    unfold M.xend at c1
    split at c1
    · cases c1
    · rename_i c2
      exact ⟨rfl, c1, Int.not_lt.1 (fun g => c2 ⟨c1, g⟩), c.2⟩
  · cases h

/-- What is taken, put, is that text. -/
theorem take_text {s : ByteArray} (hs : s.size ≤ 9223372036854775806) (h : (chunk_Take.res s).2.2.2 = 0) :
    chunk_fits.wrong (chunk_Take.res s).1 (chunk_Take.res s).2.1 (chunk_Take.res s).2.2.1 = 0 ∧ chunk_fits.text (chunk_Take.res s).1 (chunk_Take.res s).2.1 (chunk_Take.res s).2.2.1 = M.bs s := by
  have h0 : M.sok s 0 := ⟨by decide, by omega, by omega⟩
  have hb := M.xbyte_ok s 0 h0
  unfold chunk_Take.res at h ⊢
  split at h
  · rename_i c1
    rw [if_pos c1]
    obtain ⟨f1, f2, f3, f4⟩ := fin_ok h
    rw [f1]
    refine ⟨f4, ?_⟩
    unfold chunk_fits.rest at f2 f3 ⊢
    have hm := M.xnum_ok s (M.xbyte s 0 0).2.2 8 hb
    obtain ⟨e3, s3, l3⟩ := read_span s 0 _ _ _ hm f2
    obtain ⟨e2, s2, g0, g1⟩ := M.xnum_span hb e3
    obtain ⟨e1, s1, _⟩ := M.xbyte_span h0 e2
    have := M.span_all (M.span_trans s1 (M.span_trans s2 s3)) f3
    rw [this]
    unfold chunk_fits.text
    simp only [l3]
    rw [c1, if_neg (by decide), List.append_assoc]; rfl
  · rename_i c1
    rw [if_neg c1]
    split at h
    · rename_i c2
      rw [if_pos c2]
      split at h
      · cases h
      · rename_i c3
        rw [if_neg c3]
        obtain ⟨f1, f2, f3, f4⟩ := fin_ok h
        rw [f1]
        refine ⟨f4, ?_⟩
        unfold chunk_fits.rest at f2 f3 ⊢
        have hl := M.xnum_ok s (M.xbyte s 0 0).2.2 40 hb
        have hm := M.xnum_ok s (M.xnum s (M.xbyte s 0 0).2.1 (M.xbyte s 0 0).2.2 40).2.2 8 hl
        obtain ⟨e4, s4, l4⟩ := read_span s _ _ _ _ hm f2
        obtain ⟨e3, s3, _, _⟩ := M.xnum_span hl e4
        obtain ⟨e2, s2, g0, g1⟩ := M.xnum_span hb e3
        obtain ⟨e1, s1, _⟩ := M.xbyte_span h0 e2
        have := M.span_all (M.span_trans s1 (M.span_trans s2 (M.span_trans s3 s4))) f3
        rw [this]
        unfold chunk_fits.text
        simp only [l4]
        rw [c2, if_pos (by omega)]
        simp
    · cases h

theorem same_nums (lv : Int) (es : List S29) (cs : List Int) (hc : cs.length ≤ 100) (d : Nat) : ∀ (k i : Nat), i + d = cs.length → d < k → pleachref19_Same.l1 k (i : Int) lv es cs lv es cs = some true := by
  induction d with
  | zero =>
    intro k i hi hk
    obtain ⟨k, rfl⟩ : ∃ m, k = m + 1 := ⟨k - 1, by omega⟩
    rw [pleachref19_Same.l1, if_neg (by omega)]
  | succ d ih =>
    intro k i hi hk
    obtain ⟨k, rfl⟩ : ∃ m, k = m + 1 := ⟨k - 1, by omega⟩
    rw [pleachref19_Same.l1, if_pos (by omega), if_pos (by omega), if_pos (by omega), if_pos rfl, M.wrap64_id (by omega) (by omega), show (i : Int) + 1 = ((i + 1 : Nat) : Int) from by omega]
    exact ih k (i + 1) (by omega) (by omega)
theorem same_entries (lv : Int) (es : List S29) (cs : List Int) (hc : cs.length ≤ 100) (he : es.length ≤ 100) (d : Nat) : ∀ (k i : Nat), i + d = es.length → d + cs.length + 1 < k → pleachref19_Same.l0 k (i : Int) lv es cs lv es cs = some true := by
  induction d with
  | zero =>
    intro k i hi hk
    obtain ⟨k, rfl⟩ : ∃ m, k = m + 1 := ⟨k - 1, by omega⟩
    rw [pleachref19_Same.l0, if_neg (by omega)]
    exact same_nums lv es cs hc cs.length k 0 (by omega) (by omega)
  | succ d ih =>
    intro k i hi hk
    obtain ⟨k, rfl⟩ : ∃ m, k = m + 1 := ⟨k - 1, by omega⟩
    rw [pleachref19_Same.l0, if_pos (by omega), if_pos (by omega), if_pos (by omega), if_neg (by simp), M.wrap64_id (by omega) (by omega), show (i : Int) + 1 = ((i + 1 : Nat) : Int) from by omega]
    exact ih k (i + 1) (by omega) (by omega)
theorem same_self (lv : Int) (es : List S29) (cs : List Int) (hc : cs.length ≤ 8) (he : es.length ≤ 8) (k : Nat) (hk : 20 ≤ k) : pleachref19_Same.f k lv es cs lv es cs = some true := by
  obtain ⟨k, rfl⟩ : ∃ m, k = m + 1 := ⟨k - 1, by omega⟩
  unfold pleachref19_Same.f
  rw [if_pos rfl, if_pos rfl, show ((cs.length : Int) != (cs.length : Int)) = false from by simp, pleachref19_Same.j0, if_neg (by simp)]
  exact same_entries lv es cs (by omega) (by omega) es.length k 0 (by omega) (by omega)

theorem ref_entries (lv : Int) (hl : 0 ≤ lv) (es : List S29) (cs : List Int) (he : es.length ≤ 100) (d : Nat) : ∀ (k i : Nat), i + d = es.length → 2 * d + 2 ≤ k →
    pleachref19_Wrong.l1 k (i : Int) lv es cs = some (chunk_fits.go lv (if i = 0 then none else some (rd_T29 es ((i : Int) - 1)).f0) (es.drop i)) := by
  induction d with
  | zero =>
    intro k i hi hk
    obtain ⟨k, rfl⟩ : ∃ m, k = m + 1 := ⟨k - 1, by omega⟩
    rw [pleachref19_Wrong.l1, if_neg (by omega), List.drop_of_length_le (by omega)]
    cases (if i = 0 then none else some (rd_T29 es ((i : Int) - 1)).f0) <;> rfl
  | succ d ih =>
    intro k i hi hk
    obtain ⟨k, rfl⟩ : ∃ m, k = m + 2 := ⟨k - 2, by omega⟩
    have hlt : i < es.length := by omega
    have hrd : rd_T29 es (i : Int) = es[i] := by simp [rd_T29, List.getD, hlt]
    have hn := ih k (i + 1) (by omega) (by omega)
    rw [if_neg (by omega), show ((i + 1 : Nat) : Int) - 1 = (i : Int) from by omega, hrd] at hn
    rw [List.drop_eq_getElem_cons hlt, chunk_fits.go.eq_def lv _ (es[i] :: es.drop (i + 1))]
    have hj : pleachref19_Wrong.l1 (k + 2) (i : Int) lv es cs = pleachref19_Wrong.j4 (k + 1) (i : Int) (!chunk_fits.ok lv es[i].f0 es[i].f1) lv es cs := by
      rw [pleachref19_Wrong.l1, if_pos (by omega), if_pos (by omega), hrd]
      generalize es[i] = e
      unfold chunk_fits.ok
      by_cases h1 : e.f0.size = 0
      · rw [if_pos (by omega), decide_eq_false (fun z => by omega)]; rfl
      · rw [if_neg (by omega)]
        by_cases h2 : 64 < e.f0.size
        · rw [if_pos (by omega), decide_eq_false (fun z => by omega)]; rfl
        · rw [if_neg (by omega)]
          by_cases h3 : lv = 0
          · rw [if_pos h3]
            have h3' : ¬ lv > 0 := by omega
            simp only [if_neg h3']
            by_cases h4 : 2048 < e.f1.size
            · rw [if_pos (by omega), decide_eq_false (fun z => by omega)]; rfl
            · rw [if_neg (by omega), decide_eq_true ⟨by omega, by omega, by omega⟩]; rfl
          · have h3' : lv > 0 := by omega
            rw [if_neg h3]
            simp only [if_pos h3']
            by_cases h4 : e.f1.size = 32
            · rw [decide_eq_true ⟨by omega, by omega, h4⟩, h4]; rfl
            · rw [decide_eq_false (fun z => h4 z.2.2), show ((e.f1.size : Int) != 32) = true from bne_iff_ne.2 (by omega)]; rfl
    rw [hj, pleachref19_Wrong.j4]
    simp only
    by_cases hk : chunk_fits.ok lv es[i].f0 es[i].f1 = true
    · rw [hk, if_neg (by simp), if_pos rfl, M.wrap64_id (i := (i : Int) + 1) (by omega) (by omega), show (i : Int) + 1 = ((i + 1 : Nat) : Int) from by omega, hn]
      by_cases h0 : i = 0
      · rw [if_neg (by omega), if_pos h0]
      · rw [if_pos (by omega), if_neg h0, M.wrap64_id (i := (i : Int) - 1) (by omega) (by omega), if_pos (by omega), if_pos (by omega), if_pos (by omega), if_pos (by omega), hrd]
        simp only
        split <;> rfl
    · rw [Bool.eq_false_iff.2 hk, if_pos (show (!false) = true from rfl), if_neg (by simp)]

theorem ref_counts (lv : Int) (hl : 0 ≤ lv) (es : List S29) (cs : List Int) (he : es.length ≤ 100) (hc : cs.length ≤ 100) (d : Nat) : ∀ (k i : Nat), i + d = cs.length → d + 2 * es.length + 5 ≤ k →
    pleachref19_Wrong.l0 k (i : Int) lv es cs = some (if ((cs.drop i).all fun n => decide (1 ≤ n ∧ n ≤ 2147483648)) = true then chunk_fits.go lv none es else 2) := by
  induction d with
  | zero =>
    intro k i hi hk
    obtain ⟨k, rfl⟩ : ∃ m, k = m + 1 := ⟨k - 1, by omega⟩
    have := ref_entries lv hl es cs he es.length k 0 (by omega) (by omega)
    rw [if_pos rfl, List.drop_zero] at this
    rw [pleachref19_Wrong.l0, if_neg (by omega), List.drop_of_length_le (by omega), List.all_nil, if_pos rfl]
    exact this
  | succ d ih =>
    intro k i hi hk
    obtain ⟨k, rfl⟩ : ∃ m, k = m + 1 := ⟨k - 1, by omega⟩
    have hlt : i < cs.length := by omega
    have hrd : rd cs (i : Int) = cs[i] := by simp [rd, List.getD, hlt]
    rw [pleachref19_Wrong.l0, if_pos (by omega), if_pos (by omega), hrd, List.drop_eq_getElem_cons hlt, List.all_cons, M.wrap64_id (i := (i : Int) + 1) (by omega) (by omega), show (i : Int) + 1 = ((i + 1 : Nat) : Int) from by omega, ih k (i + 1) (by omega) (by omega)]
    generalize cs[i] = n
    by_cases h0 : n < 1
    · rw [if_pos h0, show decide (1 ≤ n ∧ n ≤ 2147483648) = false from decide_eq_false (fun z => by omega)]; rfl
    · rw [if_neg h0]
      by_cases h1 : n > 2147483648
      · rw [if_pos h1, show decide (1 ≤ n ∧ n ≤ 2147483648) = false from decide_eq_false (fun z => by omega)]; rfl
      · rw [if_neg h1, show decide (1 ≤ n ∧ n ≤ 2147483648) = true from decide_eq_true ⟨by omega, by omega⟩, Bool.true_and]

theorem ref_wrong (lv : Int) (es : List S29) (cs : List Int) (he : es.length ≤ 100) (hc : cs.length ≤ 100) (k : Nat) (hk : 400 ≤ k) : pleachref19_Wrong.f k lv es cs = some (chunk_fits.wrong lv es cs) := by
  obtain ⟨k, rfl⟩ : ∃ m, k = m + 2 := ⟨k - 2, by omega⟩
  have w2 : (lv < 0 ∨ 40 < lv ∨ 8 < es.length ∨ chunk_fits.counted lv es cs = false) → chunk_fits.wrong lv es cs = 2 := fun z => by unfold chunk_fits.wrong; rw [if_pos z]
  have w0 : ¬ (lv < 0 ∨ 40 < lv ∨ 8 < es.length ∨ chunk_fits.counted lv es cs = false) → chunk_fits.wrong lv es cs = chunk_fits.go lv none es := fun z => by unfold chunk_fits.wrong; rw [if_neg z]
  have ht : pleachref19_Wrong.j0 (k + 2) true lv es cs = some 2 := by rw [pleachref19_Wrong.j0, if_pos rfl]
  have hu : pleachref19_Wrong.j1 (k + 1) true lv es cs = some 2 := by rw [pleachref19_Wrong.j1, if_pos rfl]
  unfold pleachref19_Wrong.f
  by_cases h0 : lv < 0
  · rw [if_pos h0, ht, w2 (.inl h0)]
  · rw [if_neg h0]
    by_cases h1 : lv > 40
    · rw [if_pos h1, ht, w2 (.inr (.inl h1))]
    · rw [if_neg h1]
      by_cases h2 : (es.length : Int) > 8
      · rw [decide_eq_true h2, ht, w2 (.inr (.inr (.inl (by omega))))]
      · rw [decide_eq_false h2, pleachref19_Wrong.j0, if_neg (by simp)]
        have hg := ref_counts lv (by omega) es cs he hc cs.length k 0 (by omega) (by omega)
        rw [List.drop_zero, show ((0 : Nat) : Int) = 0 from rfl] at hg
        have hf : pleachref19_Wrong.j1 (k + 1) false lv es cs = some (if (cs.all fun n => decide (1 ≤ n ∧ n ≤ 2147483648)) = true then chunk_fits.go lv none es else 2) := by rw [pleachref19_Wrong.j1, if_neg (by simp)]; exact hg
        by_cases h3 : lv = 0
        · have h3' : ¬ lv > 0 := by omega
          rw [if_pos h3, if_neg h3']
          by_cases h4 : cs.length = 0
          · have h5 : cs = [] := List.eq_nil_of_length_eq_zero h4
            have hcc : chunk_fits.counted lv es cs = true := by unfold chunk_fits.counted; rw [if_pos h3]; exact decide_eq_true h4
            rw [if_neg (by omega), hf, w0 (by rw [hcc]; simp; omega), h5, List.all_nil, if_pos rfl]
          · have hcc : chunk_fits.counted lv es cs = false := by unfold chunk_fits.counted; rw [if_pos h3]; exact decide_eq_false h4
            rw [if_pos (by omega), hu, w2 (.inr (.inr (.inr hcc)))]
        · have h3' : lv > 0 := by omega
          rw [if_neg h3, if_pos h3']
          have hcc : chunk_fits.counted lv es cs = ((cs.all fun n => decide (1 ≤ n ∧ n ≤ 2147483648)) && decide (cs.length = es.length ∧ 0 < es.length)) := by unfold chunk_fits.counted; rw [if_neg h3]
          by_cases h4 : es.length = 0
          · rw [if_pos (by omega), hu, w2 (.inr (.inr (.inr (by rw [hcc, show decide (cs.length = es.length ∧ 0 < es.length) = false from decide_eq_false (fun z => by omega), Bool.and_false]))))]
          · rw [if_neg (by omega)]
            by_cases h5 : cs.length = es.length
            · rw [show ((cs.length : Int) != (es.length : Int)) = false from bne_eq_false_iff_eq.2 (by omega), hf]
              rw [show decide (cs.length = es.length ∧ 0 < es.length) = true from decide_eq_true ⟨h5, by omega⟩, Bool.and_true] at hcc
              cases ha : (cs.all fun n => decide (1 ≤ n ∧ n ≤ 2147483648)) with
              | true => rw [if_pos rfl, w0 (by rw [hcc, ha]; simp; omega)]
              | false => rw [if_neg (by simp), w2 (.inr (.inr (.inr (by rw [hcc, ha]))))]
            · rw [show ((cs.length : Int) != (es.length : Int)) = true from bne_iff_ne.2 (by omega), hu, w2 (.inr (.inr (.inr (by rw [hcc, show decide (cs.length = es.length ∧ 0 < es.length) = false from decide_eq_false (fun z => by omega), Bool.and_false]))))]

theorem ref_put_loop (lv : Int) (es : List S29) (cs : List Int) (hw : chunk_fits.wrong lv es cs = 0) (d : Nat) : ∀ (k i : Nat) (out : ByteArray), i + d = es.length → d < k → out.size ≤ 100 + i * 2200 →
    pleachref19_Put.l0 k out (i : Int) lv es cs = some (out ++ M.sb (chunk_fits.enc lv (es.drop i) (cs.drop i))) := by
  obtain ⟨hl0, hl1, hl8, hcn, hc0, hok⟩ := chunk_fits.wrong_ok hw
  induction d with
  | zero =>
    intro k i out hi hk ho
    obtain ⟨k, rfl⟩ : ∃ m, k = m + 1 := ⟨k - 1, by omega⟩
    rw [pleachref19_Put.l0, if_neg (by omega), List.drop_of_length_le (by omega)]
    congr 1
    exact M.bs_inj (by rw [M.bs_append]; simp [chunk_fits.enc, M.bs_sb])
  | succ d ih =>
    intro k i out hi hk ho
    obtain ⟨k, rfl⟩ : ∃ m, k = m + 1 := ⟨k - 1, by omega⟩
    have hlt : i < es.length := by omega
    have hrd : rd_T29 es (i : Int) = es[i] := by simp [rd_T29, List.getD, hlt]
    have he := hok es[i] (List.getElem_mem hlt)
    rw [pleachref19_Put.l0, if_pos (by omega), if_pos (by omega), hrd, List.drop_eq_getElem_cons hlt, M.wrap64_id (i := (i : Int) + 1) (by omega) (by omega), show (i : Int) + 1 = ((i + 1 : Nat) : Int) from by omega]
    generalize es[i] = e at he ⊢
    unfold chunk_fits.ok at he
    have he := of_decide_eq_true he
    have l1 := M.vb_le e.f0.size (by omega)
    unfold pleachref04_PutText.f
    rw [if_pos (by omega), Option.bind_some, if_pos (by simp only [M.size_append, M.size_sb]; omega)]
    by_cases hl : lv > 0
    · rw [if_pos hl] at he
      have hil : i < cs.length := by rw [(hcn hl).1]; omega
      have hrc : rd cs (i : Int) = cs[i] := by simp [rd, List.getD, hil]
      have hcb := (hcn hl).2 cs[i] (List.getElem_mem hil)
      have l2 := M.vb_le cs[i].toNat (by omega)
      unfold pleachref04_PutNum.f
      rw [if_pos hl, if_pos (by simp only [M.size_append, M.size_sb]; omega), if_pos (by omega), hrc, if_pos (by omega), Option.bind_some, if_pos (by simp only [M.size_append, M.size_sb]; omega)]
      rw [ih k (i + 1) _ (by omega) (by omega) (by simp only [M.size_append, M.size_sb]; omega), List.drop_eq_getElem_cons hil]
      congr 1
      apply M.bs_inj
      simp only [chunk_fits.enc, M.bs_append, M.bs_sb, if_pos hl, List.headD_cons, List.tail_cons, List.append_assoc]
    · rw [if_neg hl] at he
      have l3 := M.vb_le e.f1.size (by omega)
      have hcs : cs = [] := hc0 (by omega)
      rw [if_neg hl, if_pos (by omega), Option.bind_some]
      rw [if_pos (by simp only [M.size_append, M.size_sb]; omega)]
      rw [ih k (i + 1) _ (by omega) (by omega) (by simp only [M.size_append, M.size_sb]; omega)]
      congr 1
      apply M.bs_inj
      simp only [chunk_fits.enc, M.bs_append, M.bs_sb, if_neg hl, hcs, List.drop_nil, List.tail_nil, List.append_assoc]

theorem ref_put (lv : Int) (es : List S29) (cs : List Int) (he : es.length ≤ 100) (hc : cs.length ≤ 100) (k : Nat) (hk : 500 ≤ k) : pleachref19_Put.f k lv es cs = some (if chunk_fits.wrong lv es cs = 0 then M.sb (chunk_fits.text lv es cs) else M.sb []) := by
  unfold pleachref19_Put.f
  rw [ref_wrong lv es cs he hc k (by omega), Option.bind_some]
  by_cases hw : chunk_fits.wrong lv es cs = 0
  · rw [if_pos hw, if_pos hw]
    obtain ⟨k, rfl⟩ : ∃ m, k = m + 1 := ⟨k - 1, by omega⟩
    obtain ⟨hl0, hl1, hl8, hcn, hc0, hok⟩ := chunk_fits.wrong_ok hw
    have lv' := M.vb_le lv.toNat (by omega)
    have le' := M.vb_le es.length (by omega)
    have hj : ∀ out : ByteArray, out.size ≤ 20 → pleachref19_Put.j0 (k + 1) out lv es cs = some (out ++ M.sb (M.vb es.length) ++ M.sb (chunk_fits.enc lv es cs)) := by
      intro out ho
      rw [pleachref19_Put.j0]
      unfold pleachref04_PutNum.f
      rw [if_pos (by omega), Option.bind_some, Int.toNat_natCast, M.size_sb, if_pos (by omega)]
      have := ref_put_loop lv es cs hw es.length k 0 (out ++ M.sb (M.vb es.length)) (by omega) (by omega) (by rw [M.size_append, M.size_sb]; omega)
      rw [List.drop_zero, List.drop_zero] at this
      exact this
    by_cases hl : lv > 0
    · rw [if_pos hl]
      unfold pleachref04_PutNum.f
      rw [if_pos (by omega), Option.bind_some, if_pos (by rw [M.size_sb]; omega), hj _ (by rw [M.size_append, M.size_sb]; show 1 + _ ≤ 20; omega)]
      congr 1
      apply M.bs_inj
      rw [show (⟨#[73]⟩ : ByteArray) = M.sb [73] from rfl]
      simp [chunk_fits.text, M.bs_append, M.bs_sb, if_pos hl]
    · rw [if_neg hl, hj _ (by decide)]
      congr 1
      apply M.bs_inj
      rw [show (⟨#[76]⟩ : ByteArray) = M.sb [76] from rfl]
      simp [chunk_fits.text, M.bs_append, M.bs_sb, if_neg hl]
  · rw [if_neg hw, if_neg hw]; rfl

/-- What the reference takes: what was read, if its text is the text. -/
def rfin (s : ByteArray) (lv : Int) (r : List S29 × List Int × Int × Int) : Int × List S29 × List Int × Bool :=
  if r.2.2.2 = 0 ∧ (if chunk_fits.wrong lv r.1 r.2.1 = 0 then M.sb (chunk_fits.text lv r.1 r.2.1) else M.sb []) = s then (lv, r.1, r.2.1, true) else (0, [], [], false)
theorem ref_take_loop (s : ByteArray) (hz : s.size ≤ 9223372036854775806) (lv n : Int) (hn : n ≤ 8) (d : Nat) : ∀ (k i : Nat) (p er : Int) (es : List S29) (cs : List Int), (i : Int) + d = n → d + 501 ≤ k → M.sok s p → es.length ≤ i → cs.length ≤ i →
    pleachref19_Take.l0 k s n (i : Int) lv es cs s p er = some (rfin s lv (es ++ (chunk_fits.read s lv d p er).1, cs ++ (chunk_fits.read s lv d p er).2.1, (chunk_fits.read s lv d p er).2.2.1, (chunk_fits.read s lv d p er).2.2.2)) := by
  induction d with
  | zero =>
    intro k i p er es cs hi hk hs he hc
    obtain ⟨k, rfl⟩ : ∃ m, k = m + 1 := ⟨k - 1, by omega⟩
    rw [pleachref19_Take.l0, if_neg (by omega)]
    simp only [chunk_fits.read, List.append_nil]
    unfold rfin
    by_cases h0 : er = 0
    · rw [if_pos h0, ref_put lv es cs (by omega) (by omega) k (by omega), Option.bind_some]
      by_cases h1 : (if chunk_fits.wrong lv es cs = 0 then M.sb (chunk_fits.text lv es cs) else M.sb []) = s
      · rw [h1, if_pos rfl, if_pos ⟨h0, rfl⟩]
      · rw [if_neg (fun z => h1 (M.bs_inj (by rw [← M.toList_bs, ← M.toList_bs]; exact z))), if_neg (fun z => h1 z.2)]
    · rw [if_neg h0, if_neg (fun z => h0 z.1)]
  | succ d ih =>
    intro k i p er es cs hi hk hs he hc
    obtain ⟨k, rfl⟩ : ∃ m, k = m + 1 := ⟨k - 1, by omega⟩
    have hk := M.xtext_ok s er 64 hs
    have hi1 : wrap64 ((i : Int) + 1) = ((i + 1 : Nat) : Int) := by rw [M.wrap64_id (by omega) (by omega)]; omega
    rw [pleachref19_Take.l0, if_pos (by omega), hi1]
    unfold pleachref04_Text.f
    rw [if_pos ⟨hs, by decide, hz⟩, Option.bind_some]
    simp only
    by_cases hl : lv > 0
    · have hv := M.xfix_ok s (M.xtext s p er 64).2.2 32 hk
      have hm := M.xnum_ok s (M.xfix s (M.xtext s p er 64).2.1 (M.xtext s p er 64).2.2 32).2.2 2147483648 hv
      unfold pleachref04_Fix.f pleachref04_fix.f pleachref04_Num.f
      rw [if_pos hl, if_pos ⟨hk, by decide, by decide⟩, Option.bind_some]
      simp only
      rw [if_pos ⟨hv, by decide, hz⟩, Option.bind_some]
      simp only
      rw [if_pos (by omega), if_pos (by omega), ih k (i + 1) _ _ _ _ (by omega) (by omega) hm (by simp; omega) (by simp; omega)]
      simp only [chunk_fits.read, if_pos hl, List.append_assoc, List.singleton_append]
    · have hv := M.xtext_ok s (M.xtext s p er 64).2.2 2048 hk
      rw [if_neg hl]
      rw [if_pos ⟨hk, by decide, hz⟩, Option.bind_some]
      simp only
      rw [if_pos (by omega), ih k (i + 1) _ _ _ _ (by omega) (by omega) hv (by simp; omega) (by omega)]
      simp only [chunk_fits.read, if_neg hl, List.append_assoc, List.singleton_append]

theorem ref_take (s : ByteArray) (hz : s.size ≤ 9223372036854775806) (k : Nat) (hk : 600 ≤ k) : ∃ lv p er, pleachref19_Take.f k s = some (rfin s lv (chunk_fits.rest s lv p er)) ∧ M.sok s p ∧ (if (M.xbyte s 0 0).1 = 76 then lv = 0 ∧ (p, er) = (M.xbyte s 0 0).2 else (lv, p, er) = M.xnum s (M.xbyte s 0 0).2.1 (M.xbyte s 0 0).2.2 40) := by
  have h0 : M.sok s 0 := ⟨by decide, by omega, by omega⟩
  have hb := M.xbyte_ok s 0 h0
  have hl := M.xnum_ok s (M.xbyte s 0 0).2.2 40 hb
  obtain ⟨k, rfl⟩ : ∃ m, k = m + 1 := ⟨k - 1, by omega⟩
  have hj : ∀ (lv p er : Int), M.sok s p → pleachref19_Take.j0 (k + 1) s lv s p er = some (rfin s lv (chunk_fits.rest s lv p er)) := by
    intro lv p er hs
    have hr := M.xnum_range s (er := er) hs (most := 8) (by decide) (by decide)
    rw [pleachref19_Take.j0]
    unfold pleachref04_Num.f
    rw [if_pos ⟨hs, by decide, hz⟩, Option.bind_some]
    have := ref_take_loop s hz lv (M.xnum s p er 8).1 hr.2 (M.xnum s p er 8).1.toNat k 0 (M.xnum s p er 8).2.1 (M.xnum s p er 8).2.2 [] [] (by omega) (by omega) (M.xnum_ok s er 8 hs) (by simp) (by simp)
    simp only [List.nil_append] at this
    exact this
  unfold pleachref19_Take.f pleachref04_Byte.f
  rw [if_pos h0, Option.bind_some]
  simp only
  by_cases c1 : (M.xbyte s 0 0).1 = 76
  · exact ⟨0, _, (M.xbyte s 0 0).2.2, by rw [if_pos c1]; exact hj _ _ _ hb, hb, by rw [if_pos c1]; exact ⟨rfl, rfl⟩⟩
  · refine ⟨_, _, (M.xnum s (M.xbyte s 0 0).2.1 (M.xbyte s 0 0).2.2 40).2.2, ?_, hl, by rw [if_neg c1]⟩
    rw [if_neg c1]
    unfold pleachref04_Num.f
    rw [if_pos ⟨hb, by decide, hz⟩, Option.bind_some]
    exact hj _ _ _ hl

/-- Behind an error nothing is told. -/
theorem rfin_err {s : ByteArray} {lv : Int} {r : List S29 × List Int × Int × Int} (h : r.2.2.2 ≠ 0) : rfin s lv r = (0, [], [], false) := by unfold rfin; rw [if_neg (fun z => h z.1)]
theorem rest_err {s : ByteArray} {lv p er : Int} (hs : M.sok s p) (h : er ≠ 0) : (chunk_fits.rest s lv p er).2.2.2 ≠ 0 := by
  intro z
  unfold chunk_fits.rest at z
  obtain ⟨e1, _⟩ := read_span s lv _ _ _ (M.xnum_ok s er 8 hs) z
  exact h (M.xnum_span hs e1).1
/-- What both tell of what was read. -/
theorem fin_same {s : ByteArray} {lv p er : Int} {pre : List UInt8} (hs : M.sok s p) (hsp : er = 0 → M.span s 0 p pre) (ht : ∀ es cs, chunk_fits.wrong lv es cs = 0 → chunk_fits.text lv es cs = pre ++ (M.vb es.length ++ chunk_fits.enc lv es cs)) (hp : pre ≠ []) :
    (chunk_Take.fin s lv (chunk_fits.rest s lv p er) = (0, [], [], 3) ∧ rfin s lv (chunk_fits.rest s lv p er) = (0, [], [], false)) ∨
    (chunk_fits.wrong lv (chunk_fits.rest s lv p er).1 (chunk_fits.rest s lv p er).2.1 = 0 ∧ chunk_Take.fin s lv (chunk_fits.rest s lv p er) = (lv, (chunk_fits.rest s lv p er).1, (chunk_fits.rest s lv p er).2.1, 0) ∧ rfin s lv (chunk_fits.rest s lv p er) = (lv, (chunk_fits.rest s lv p er).1, (chunk_fits.rest s lv p er).2.1, true)) := by
  by_cases he : (chunk_fits.rest s lv p er).2.2.2 = 0
  · have hm := M.xnum_ok s er 8 hs
    have he' := he
    unfold chunk_fits.rest at he'
    obtain ⟨e1, s1, l1⟩ := read_span s lv _ _ _ hm he'
    obtain ⟨e0, s0, _, _⟩ := M.xnum_span hs e1
    rw [← l1] at s0
    have hall := M.span_trans (hsp e0) (M.span_trans s0 s1)
    change M.span s 0 (chunk_fits.rest s lv p er).2.2.1 (pre ++ (M.vb (chunk_fits.rest s lv p er).1.length ++ chunk_fits.enc lv (chunk_fits.rest s lv p er).1 (chunk_fits.rest s lv p er).2.1)) at hall
    generalize chunk_fits.rest s lv p er = r at he hall ⊢
    by_cases hw : chunk_fits.wrong lv r.1 r.2.1 = 0
    · rw [← ht _ _ hw] at hall
      by_cases hq : (s.size : Int) ≤ r.2.2.1
      · refine .inr ⟨hw, ?_, ?_⟩
        · unfold chunk_Take.fin M.xend
          rw [if_pos]
          refine ⟨?_, hw⟩
          rw [if_neg (fun z => by have := z.2; omega)]; exact he
        · unfold rfin
          rw [if_pos]
          refine ⟨he, ?_⟩
          rw [if_pos hw]
          exact M.bs_inj (by rw [M.bs_sb, M.span_all hall hq])
      · refine .inl ⟨?_, ?_⟩
        · unfold chunk_Take.fin M.xend
          rw [if_neg]
          intro z
          have z1 := z.1
          rw [if_pos ⟨he, by omega⟩] at z1
          cases z1
        · unfold rfin
          rw [if_neg]
          intro z
          have z2 := z.2
          rw [if_pos hw] at z2
          have := M.span_end hall (by rw [← z2, M.bs_sb])
          omega
    · refine .inl ⟨?_, ?_⟩
      · unfold chunk_Take.fin
        rw [if_neg (fun z => hw z.2)]
      · unfold rfin
        rw [if_neg]
        intro z
        have z2 := z.2
        rw [if_neg hw] at z2
        obtain ⟨_, h1, h2⟩ := hall
        rw [← z2, M.bs_sb] at h2
        simp at h2
        exact hp h2.1
  · refine .inl ⟨?_, rfin_err he⟩
    unfold chunk_Take.fin
    rw [if_neg]
    intro z
    have z1 := z.1
    unfold M.xend at z1
    split at z1
    · cases z1
    · exact he z1

theorem both (s : ByteArray) (hz : s.size ≤ 5000) (k : Nat) (hk : 600 ≤ k) :
    (chunk_Take.res s = (0, [], [], 3) ∧ pleachref19_Take.f k s = some (0, [], [], false)) ∨
    (∃ lv es cs, chunk_fits.wrong lv es cs = 0 ∧ chunk_Take.res s = (lv, es, cs, 0) ∧ pleachref19_Take.f k s = some (lv, es, cs, true)) := by
  obtain ⟨lv, p, er, hf, hs, hc⟩ := ref_take s (by omega) k hk
  have h0 : M.sok s 0 := ⟨by decide, by omega, by omega⟩
  have hb := M.xbyte_ok s 0 h0
  rw [hf]
  unfold chunk_Take.res
  by_cases c1 : (M.xbyte s 0 0).1 = 76
  · rw [if_pos c1] at hc ⊢
    obtain ⟨rfl, hc⟩ := hc
    rw [Prod.ext_iff] at hc
    obtain ⟨rfl, rfl⟩ := hc
    have := fin_same (s := s) (lv := 0) (p := (M.xbyte s 0 0).2.1) (er := (M.xbyte s 0 0).2.2) (pre := [76]) hs (fun e => by have := (M.xbyte_span h0 e).2.1; rw [c1] at this; exact this)
      (fun es cs _ => by unfold chunk_fits.text; rw [if_neg (by decide), List.append_assoc]) (by simp)
    rcases this with ⟨a, b⟩ | ⟨w, a, b⟩
    · exact .inl ⟨a, by rw [b]⟩
    · exact .inr ⟨_, _, _, w, a, by rw [b]⟩
  · rw [if_neg c1] at hc ⊢
    by_cases c2 : (M.xbyte s 0 0).1 = 73
    · rw [if_pos c2]
      rw [Prod.ext_iff, Prod.ext_iff] at hc
      obtain ⟨rfl, rfl, rfl⟩ := hc
      by_cases c3 : (M.xnum s (M.xbyte s 0 0).2.1 (M.xbyte s 0 0).2.2 40).1 = 0
      · rw [if_pos c3]
        refine .inl ⟨rfl, ?_⟩
        congr 1
        unfold rfin
        rw [if_neg]
        intro z
        obtain ⟨z1, z2⟩ := z
        have e1 : (M.xnum s (M.xbyte s 0 0).2.1 (M.xbyte s 0 0).2.2 40).2.2 = 0 := by
          rcases Decidable.em ((M.xnum s (M.xbyte s 0 0).2.1 (M.xbyte s 0 0).2.2 40).2.2 = 0) with g | g
          · exact g
          · exact absurd z1 (rest_err hs g)
        obtain ⟨e2, s2, _, _⟩ := M.xnum_span hb e1
        obtain ⟨_, s1, _, _⟩ := M.xbyte_span h0 e2
        rw [c2] at s1
        obtain ⟨_, _, h3⟩ := s1
        rw [← z2] at h3
        split at h3
        · unfold chunk_fits.text at h3
          rw [M.bs_sb, if_neg (by omega)] at h3
          simp at h3
        · rw [M.bs_sb] at h3
          simp at h3
      · rw [if_neg c3]
        have hr := M.xnum_range s (er := (M.xbyte s 0 0).2.2) hb (most := 40) (by decide) (by decide)
        have := fin_same (s := s) (lv := (M.xnum s (M.xbyte s 0 0).2.1 (M.xbyte s 0 0).2.2 40).1) (p := (M.xnum s (M.xbyte s 0 0).2.1 (M.xbyte s 0 0).2.2 40).2.1) (er := (M.xnum s (M.xbyte s 0 0).2.1 (M.xbyte s 0 0).2.2 40).2.2) (pre := 73 :: M.vb (M.xnum s (M.xbyte s 0 0).2.1 (M.xbyte s 0 0).2.2 40).1.toNat) hs
          (fun e => by
            obtain ⟨e2, s2, _, _⟩ := M.xnum_span hb e
            obtain ⟨_, s1, _, _⟩ := M.xbyte_span h0 e2
            rw [c2] at s1
            exact M.span_trans s1 s2)
          (fun es cs _ => by unfold chunk_fits.text; rw [if_pos (by omega), List.append_assoc]) (by simp)
        rcases this with ⟨a, b⟩ | ⟨w, a, b⟩
        · exact .inl ⟨a, by rw [b]⟩
        · exact .inr ⟨_, _, _, w, a, by rw [b]⟩
    · rw [if_neg c2]
      refine .inl ⟨rfl, ?_⟩
      congr 1
      rw [Prod.ext_iff, Prod.ext_iff] at hc
      obtain ⟨rfl, rfl, rfl⟩ := hc
      unfold rfin
      rw [if_neg]
      intro z
      obtain ⟨z1, z2⟩ := z
      have e1 : (M.xnum s (M.xbyte s 0 0).2.1 (M.xbyte s 0 0).2.2 40).2.2 = 0 := by
        rcases Decidable.em ((M.xnum s (M.xbyte s 0 0).2.1 (M.xbyte s 0 0).2.2 40).2.2 = 0) with g | g
        · exact g
        · exact absurd z1 (rest_err hs g)
      obtain ⟨e2, s2, _, _⟩ := M.xnum_span hb e1
      obtain ⟨_, s1, b0, b1⟩ := M.xbyte_span h0 e2
      obtain ⟨_, _, h3⟩ := s1
      have hz2 := congrArg M.bs z2.symm
      rw [hz2] at h3
      have hne : ∀ c : Nat, c < 256 → UInt8.ofNat (M.xbyte s 0 0).1.toNat = UInt8.ofNat c → (M.xbyte s 0 0).1 = c := by
        intro c hc e
        have := congrArg UInt8.toNat e
        rw [M.u8_toNat (by omega), M.u8_toNat hc] at this
        omega
      split at h3
      · unfold chunk_fits.text at h3
        rw [M.bs_sb] at h3
        split at h3
        · simp at h3
          exact c2 (hne 73 (by decide) h3.1.symm)
        · simp at h3
          exact c1 (hne 76 (by decide) h3.1.symm)
      · rw [M.bs_sb] at h3
        simp at h3

theorem ChunkTakes : pleachlaw19_ChunkTakes.Pure := by
  intro s _
  refine ⟨700, ?_⟩
  unfold pleachlaw19_ChunkTakes.f
  by_cases hs : (s.size : Int) > 5000
  · rw [if_pos hs, awake]; rfl
  · rw [if_neg hs]
    unfold chunk_Take.f
    rw [if_pos (by omega), Option.bind_some]
    rcases both s (by omega) 700 (by decide) with ⟨a, b⟩ | ⟨lv, es, cs, w, a, b⟩
    · rw [a, b, Option.bind_some]
      simp only
      rw [same_self 0 [] [] (by decide) (by decide) 700 (by decide), Option.bind_some, if_pos rfl, if_pos (by decide), if_neg (by decide), if_pos trivial, awake]; rfl
    · obtain ⟨_, _, hl8, hcn, hc0, _⟩ := chunk_fits.wrong_ok w
      have hl : cs.length ≤ 8 := by
        by_cases hl : lv > 0
        · rw [(hcn hl).1]; exact hl8
        · rw [hc0 (by omega)]; simp
      rw [a, b, Option.bind_some]
      simp only
      rw [same_self lv es cs hl hl8 700 (by decide), Option.bind_some, if_pos rfl, if_pos (by decide), if_pos trivial, awake]; rfl
end Go.Proofs.Ytccppdpmfegndaa.Pure
