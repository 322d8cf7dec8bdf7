/- The law ChunkBack: a chunk that may be comes back from its text, the same; and what is taken of any text, put, is that text. For any chunk and any text. No further condition. -/
import Derived.Test.YtccppdpmfegndaaEChunkBackx8
namespace Go.Proofs.Ytccppdpmfegndaa.Pure
open Go.RowKit Go.Proofs.Ytccppdpmfegndaa.EChunkBack Go.Proofs.YtccppdpmfegndaaW.PrintWords Go.Proofs.YtccppdpmfegndaaW.PrintLast Go.Proofs.YtccppdpmfegndaaW.PrintMore
theorem awake : pleachlaw19_awake.f = some true := by
  have hw : chunk_fits.wrong 0 [] [] = 0 := by decide
  have ht : chunk_fits.text 0 [] [] = [76, 0] := by unfold chunk_fits.text; rw [if_neg (by decide)]; rfl
  unfold pleachlaw19_awake.f chunk_Put.f
  rw [if_pos (by decide), if_pos hw, ht, Option.bind_some, M.toList_bs, M.bs_sb, if_pos rfl]; rfl

theorem read_here (s : ByteArray) (lv : Int) : ∀ (es : List S29) (cs : List Int) (p : Nat) (r : List UInt8), (∀ e ∈ es, chunk_fits.ok lv e.f0 e.f1 = true) → (lv > 0 → cs.length = es.length ∧ ∀ n ∈ cs, 1 ≤ n ∧ n ≤ 2147483648) → (¬ lv > 0 → cs = []) → p ≤ s.size →
    (M.bs s).drop p = chunk_fits.enc lv es cs ++ r → chunk_fits.read s lv es.length (p : Int) 0 = (es, cs, ((p + (chunk_fits.enc lv es cs).length : Nat) : Int), 0)
  | [], cs, p, r, _, hc, h0, _, _ => by
    have : cs = [] := by
      by_cases hl : lv > 0
      · exact List.eq_nil_of_length_eq_zero (hc hl).1
      · exact h0 hl
    subst this
    simp [chunk_fits.read, chunk_fits.enc]
  | e :: l, cs, p, r, hk, hc, h0, hp, h => by
    have he := hk e List.mem_cons_self
    unfold chunk_fits.ok at he
    have he := of_decide_eq_true he
    have b0 := M.bs_length e.f0
    have b1 := M.bs_length e.f1
    by_cases hl : lv > 0
    · obtain ⟨hcl, hcr⟩ := hc hl
      obtain ⟨c, ct, rfl⟩ : ∃ c ct, cs = c :: ct := by
        cases cs with
        | nil => simp at hcl
        | cons c ct => exact ⟨c, ct, rfl⟩
      have hcc := hcr c List.mem_cons_self
      rw [if_pos hl] at he
      simp only [chunk_fits.enc, if_pos hl, List.headD_cons, List.tail_cons, List.append_assoc] at h
      rw [← b0] at h
      have x1 := M.xtext_here (most := 64) h hp (by omega) (by decide)
      have h1 := M.drop_on h
      have p1 := M.drop_le h hp
      have h2 := M.drop_on h1
      have p2 := M.drop_le h1 p1
      have x2 := M.xfix_here h2 p2
      have h3 := M.drop_on h2
      have p3 := M.drop_le h2 p2
      have x3 := M.xnum_here (most := 2147483648) h3 (by omega) (by decide)
      have h4 := M.drop_on h3
      have p4 := M.drop_le h3 p3
      have ih := read_here s lv l ct _ r (fun x hx => hk x (List.mem_cons_of_mem _ hx)) (fun _ => ⟨by simpa using hcl, fun n hn => hcr n (List.mem_cons_of_mem _ hn)⟩) (fun z => absurd hl z) p4 h4
      rw [show ((M.bs e.f1).length : Int) = 32 from by omega] at x2
      rw [List.length_cons, chunk_fits.read, if_pos hl]
      simp only [x1, x2, x3, ih, M.sb_bs, chunk_fits.enc, if_pos hl, List.headD_cons, List.tail_cons]
      rw [show (c.toNat : Int) = c from by omega]
      congr 3
      simp only [List.length_append, ← b0]
      congr 1
      omega
    · have := h0 hl
      subst this
      rw [if_neg hl] at he
      simp only [chunk_fits.enc, if_neg hl, List.tail_nil, List.append_assoc] at h
      rw [← b0, ← b1] at h
      have x1 := M.xtext_here (most := 64) h hp (by omega) (by decide)
      have h1 := M.drop_on h
      have p1 := M.drop_le h hp
      have h2 := M.drop_on h1
      have p2 := M.drop_le h1 p1
      have x2 := M.xtext_here (most := 2048) h2 p2 (by omega) (by decide)
      have h3 := M.drop_on h2
      have p3 := M.drop_le h2 p2
      have h4 := M.drop_on h3
      have p4 := M.drop_le h3 p3
      have ih := read_here s lv l [] _ r (fun x hx => hk x (List.mem_cons_of_mem _ hx)) (fun z => absurd z hl) (fun _ => rfl) p4 h4
      rw [List.length_cons, chunk_fits.read, if_neg hl]
      simp only [x1, x2, ih, M.sb_bs, chunk_fits.enc, if_neg hl, List.tail_nil]
      congr 3
      simp only [List.length_append, ← b0, ← b1]
      congr 1
      omega

theorem read_span (s : ByteArray) (lv : Int) : ∀ (n : Nat) (p er : Int), M.sok s p → (chunk_fits.read s lv n p er).2.2.2 = 0 →
    er = 0 ∧ M.span s p (chunk_fits.read s lv n p er).2.2.1 (chunk_fits.enc lv (chunk_fits.read s lv n p er).1 (chunk_fits.read s lv n p er).2.1) ∧ (chunk_fits.read s lv n p er).1.length = n
  | 0, p, er, hs, h => ⟨h, M.span_nil s hs.1, rfl⟩
  | n + 1, p, er, hs, h => by
    have hk := M.xtext_ok s er 64 hs
    rw [chunk_fits.read] at h ⊢
    by_cases hl : lv > 0
    · rw [if_pos hl] at h ⊢
      have hv := M.xfix_ok s (M.xtext s p er 64).2.2 32 hk
      have hm := M.xnum_ok s (M.xfix s (M.xtext s p er 64).2.1 (M.xtext s p er 64).2.2 32).2.2 2147483648 hv
      obtain ⟨e3, s3, l3⟩ := read_span s lv n _ _ hm h
      obtain ⟨e2, s2, g0, g1⟩ := M.xnum_span hv e3
      obtain ⟨e1, s1, z1⟩ := M.xfix_span hk e2
      obtain ⟨e0, s0, z0⟩ := M.xtext_span hs e1
      refine ⟨e0, ?_, by simp only [List.length_cons, l3]⟩
      have := M.span_trans s0 (M.span_trans s1 (M.span_trans s2 s3))
      simp only [chunk_fits.enc, if_pos hl, List.headD_cons, List.tail_cons, List.append_assoc] at this ⊢
      exact this
    · rw [if_neg hl] at h ⊢
      have hv := M.xtext_ok s (M.xtext s p er 64).2.2 2048 hk
      obtain ⟨e3, s3, l3⟩ := read_span s lv n _ _ hv h
      obtain ⟨e1, s1, z1⟩ := M.xtext_span hk e3
      obtain ⟨e0, s0, z0⟩ := M.xtext_span hs e1
      refine ⟨e0, ?_, by simp only [List.length_cons, l3]⟩
      have ht : ∀ m, (chunk_fits.read s lv m (M.xtext s (M.xtext s p er 64).2.1 (M.xtext s p er 64).2.2 2048).2.1 (M.xtext s (M.xtext s p er 64).2.1 (M.xtext s p er 64).2.2 2048).2.2).2.1 = [] := fun m => read_leaf s lv hl m _ _
      have := M.span_trans s0 (M.span_trans s1 s3)
      simp only [chunk_fits.enc, if_neg hl, List.append_assoc, ht, List.tail_nil] at this ⊢
      exact this
where
  read_leaf (s : ByteArray) (lv : Int) (hl : ¬ lv > 0) : ∀ (m : Nat) (p er : Int), (chunk_fits.read s lv m p er).2.1 = []
    | 0, _, _ => rfl
    | m + 1, p, er => by rw [chunk_fits.read, if_neg hl]; exact read_leaf s lv hl m _ _

/-- What a chunk's text reads as. -/
theorem take_back {lv : Int} {es : List S29} {cs : List Int} (hw : chunk_fits.wrong lv es cs = 0) : chunk_Take.res (M.sb (chunk_fits.text lv es cs)) = (lv, es, cs, 0) := by
  obtain ⟨hl0, hl1, hl8, hcn, hc0, hok⟩ := chunk_fits.wrong_ok hw
  obtain ⟨s, hs⟩ : ∃ s, s = M.sb (chunk_fits.text lv es cs) := ⟨_, rfl⟩
  have hb : M.bs s = chunk_fits.text lv es cs := by rw [hs, M.bs_sb]
  have hn : ¬ lv > 0 → cs = [] := fun z => hc0 (by omega)
  rw [← hs]
  have hz := M.bs_length s
  have hfin : ∀ (q : Nat) (r : List UInt8), q ≤ s.size → (M.bs s).drop q = M.vb es.length ++ (chunk_fits.enc lv es cs ++ r) → r = [] → chunk_Take.fin s lv (chunk_fits.rest s lv (q : Int) 0) = (lv, es, cs, 0) := by
    intro q r hq h hr
    have x1 := M.xnum_here (most := 8) h (by omega) (by decide)
    have h1 := M.drop_on h
    have p1 := M.drop_le h hq
    have x2 := read_here s lv es cs _ r hok hcn hn p1 h1
    have p2 := M.drop_le h1 p1
    have h2 := M.drop_on h1
    subst hr
    have e2 : s.size ≤ q + (M.vb es.length).length + (chunk_fits.enc lv es cs).length := by
      rw [← hz]; exact List.drop_eq_nil_iff.1 h2
    unfold chunk_Take.fin chunk_fits.rest
    simp only [x1, Int.toNat_natCast, x2]
    rw [if_pos]
    refine ⟨?_, hw⟩
    unfold M.xend
    rw [if_neg]
    intro z
    have := z.2
    omega
  unfold chunk_Take.res
  unfold chunk_fits.text at hb
  by_cases hl : lv > 0
  · rw [if_pos hl] at hb
    have h0 : (M.bs s).drop 0 = 73 :: (M.vb lv.toNat ++ (M.vb es.length ++ (chunk_fits.enc lv es cs ++ []))) := by rw [List.drop_zero, hb]; simp
    have x0 := M.xbyte_here (p := 0) h0
    have h1 : (M.bs s).drop (0 + 1) = M.vb lv.toNat ++ (M.vb es.length ++ (chunk_fits.enc lv es cs ++ [])) := by rw [← List.drop_drop, h0]; rfl
    have p1 : 0 + 1 ≤ s.size := by rw [← hz, hb]; simp
    have x1 := M.xnum_here (most := 40) h1 (by omega) (by decide)
    have h2 := M.drop_on h1
    have p2 := M.drop_le h1 p1
    have x2 := hfin _ _ p2 h2 rfl
    rw [show (lv.toNat : Int) = lv from by omega] at x1
    rw [show ((0 : Nat) : Int) = 0 from rfl] at x0
    simp only [x0, x1, x2]
    rw [if_neg (by decide), if_pos (by decide), if_neg (by omega)]
  · rw [if_neg hl] at hb
    have hlz : lv = 0 := by omega
    have h0 : (M.bs s).drop 0 = 76 :: (M.vb es.length ++ (chunk_fits.enc lv es cs ++ [])) := by rw [List.drop_zero, hb]; simp
    have x0 := M.xbyte_here (p := 0) h0
    have h1 : (M.bs s).drop (0 + 1) = M.vb es.length ++ (chunk_fits.enc lv es cs ++ []) := by rw [← List.drop_drop, h0]; rfl
    have p1 : 0 + 1 ≤ s.size := by rw [← hz, hb]; simp
    have x2 := hfin _ _ p1 h1 rfl
    rw [hlz] at x2 ⊢
    rw [show ((0 : Nat) : Int) = 0 from rfl] at x0
    simp only [x0]
    rw [if_pos (by decide)]
    exact x2

theorem text_size {lv : Int} {es : List S29} {cs : List Int} (hw : chunk_fits.wrong lv es cs = 0) : (chunk_fits.text lv es cs).length ≤ 20000 := by
  obtain ⟨hl0, hl1, hl8, hcn, hc0, hok⟩ := chunk_fits.wrong_ok hw
  have l0 := M.vb_le lv.toNat (by omega)
  have l1 := M.vb_le es.length (by omega)
  have l2 := chunk_fits.enc_len lv es cs hok (by
    intro n hn
    by_cases hl : lv > 0
    · exact ((hcn hl).2 n hn).2
    · rw [hc0 (by omega)] at hn; cases hn)
  unfold chunk_fits.text
  by_cases hl : lv > 0
  · rw [if_pos hl]; simp only [List.length_append, List.length_cons]; omega
  · rw [if_neg hl]; simp only [List.length_append, List.length_cons, List.length_nil]; omega

theorem fin_ok {s : ByteArray} {lv : Int} {r : List S29 × List Int × Int × Int} (h : (chunk_Take.fin s lv r).2.2.2 = 0) : chunk_Take.fin s lv r = (lv, r.1, r.2.1, 0) ∧ r.2.2.2 = 0 ∧ (s.size : Int) ≤ r.2.2.1 ∧ chunk_fits.wrong lv r.1 r.2.1 = 0 := by
  unfold chunk_Take.fin at h ⊢
  split at h
  · rename_i c
    rw [if_pos c]
    have c1 := c.1
    unfold M.xend at c1
    split at c1
    · cases c1
    · rename_i c2
      exact ⟨rfl, c1, Int.not_lt.1 (fun g => c2 ⟨c1, g⟩), c.2⟩
  · cases h

/-- What is taken, put, is that text. -/
theorem take_text {s : ByteArray} (hs : s.size ≤ 9223372036854775806) (h : (chunk_Take.res s).2.2.2 = 0) :
    chunk_fits.wrong (chunk_Take.res s).1 (chunk_Take.res s).2.1 (chunk_Take.res s).2.2.1 = 0 ∧ chunk_fits.text (chunk_Take.res s).1 (chunk_Take.res s).2.1 (chunk_Take.res s).2.2.1 = M.bs s := by
  have h0 : M.sok s 0 := ⟨by decide, by omega, by omega⟩
  have hb := M.xbyte_ok s 0 h0
  unfold chunk_Take.res at h ⊢
  split at h
  · rename_i c1
    rw [if_pos c1]
    obtain ⟨f1, f2, f3, f4⟩ := fin_ok h
    rw [f1]
    refine ⟨f4, ?_⟩
    unfold chunk_fits.rest at f2 f3 ⊢
    have hm := M.xnum_ok s (M.xbyte s 0 0).2.2 8 hb
    obtain ⟨e3, s3, l3⟩ := read_span s 0 _ _ _ hm f2
    obtain ⟨e2, s2, g0, g1⟩ := M.xnum_span hb e3
    obtain ⟨e1, s1, _⟩ := M.xbyte_span h0 e2
    have := M.span_all (M.span_trans s1 (M.span_trans s2 s3)) f3
    rw [this]
    unfold chunk_fits.text
    simp only [l3]
    rw [c1, if_neg (by decide), List.append_assoc]; rfl
  · rename_i c1
    rw [if_neg c1]
    split at h
    · rename_i c2
      rw [if_pos c2]
      split at h
      · cases h
      · rename_i c3
        rw [if_neg c3]
        obtain ⟨f1, f2, f3, f4⟩ := fin_ok h
        rw [f1]
        refine ⟨f4, ?_⟩
        unfold chunk_fits.rest at f2 f3 ⊢
        have hl := M.xnum_ok s (M.xbyte s 0 0).2.2 40 hb
        have hm := M.xnum_ok s (M.xnum s (M.xbyte s 0 0).2.1 (M.xbyte s 0 0).2.2 40).2.2 8 hl
        obtain ⟨e4, s4, l4⟩ := read_span s _ _ _ _ hm f2
        obtain ⟨e3, s3, _, _⟩ := M.xnum_span hl e4
        obtain ⟨e2, s2, g0, g1⟩ := M.xnum_span hb e3
        obtain ⟨e1, s1, _⟩ := M.xbyte_span h0 e2
        have := M.span_all (M.span_trans s1 (M.span_trans s2 (M.span_trans s3 s4))) f3
        rw [this]
        unfold chunk_fits.text
        simp only [l4]
        rw [c2, if_pos (by omega)]
        simp
    · cases h

theorem few_loop (lv : Int) (es : List S29) (cs : List Int) (d : Nat) : ∀ (k : Nat) (n : Int) (i : Nat), i + d = 21 → d < k → ∃ b, pleachlaw19_few.l0 k n (i : Int) lv es cs = some b ∧ (b = true → es.length ≤ 20 ∧ cs.length ≤ 20) := by
  induction d with
  | zero =>
    intro k n i hi hk
    obtain ⟨k, rfl⟩ : ∃ m, k = m + 1 := ⟨k - 1, by omega⟩
    rw [pleachlaw19_few.l0, if_neg (by omega : ¬ (i : Int) ≤ 20)]
    split
    · split
      · split
        · exact ⟨_, rfl, fun _ => ⟨by omega, by omega⟩⟩
        · exact ⟨_, rfl, fun z => by cases z⟩
      · exact ⟨_, rfl, fun z => by cases z⟩
    · split
      · split
        · exact ⟨_, rfl, fun _ => ⟨by omega, by omega⟩⟩
        · exact ⟨_, rfl, fun z => by cases z⟩
      · exact ⟨_, rfl, fun z => by cases z⟩
  | succ d ih =>
    intro k n i hi hk
    obtain ⟨k, rfl⟩ : ∃ m, k = m + 1 := ⟨k - 1, by omega⟩
    rw [pleachlaw19_few.l0, if_pos (by omega : (i : Int) ≤ 20), if_pos (by omega : 0 ≤ (i : Int))]
    split
    · rw [M.wrap64_id (i := (i : Int) + 1) (by omega) (by omega), show (i : Int) + 1 = ((i + 1 : Nat) : Int) from by omega]
      exact ih k _ (i + 1) (by omega) (by omega)
    · split
      · split
        · exact ⟨_, rfl, fun _ => ⟨by omega, by omega⟩⟩
        · exact ⟨_, rfl, fun z => by cases z⟩
      · exact ⟨_, rfl, fun z => by cases z⟩

theorem same_nums (lv : Int) (es : List S29) (cs : List Int) (hc : cs.length ≤ 100) (d : Nat) : ∀ (k i : Nat), i + d = cs.length → d < k → pleachref19_Same.l1 k (i : Int) lv es cs lv es cs = some true := by
  induction d with
  | zero =>
    intro k i hi hk
    obtain ⟨k, rfl⟩ : ∃ m, k = m + 1 := ⟨k - 1, by omega⟩
    rw [pleachref19_Same.l1, if_neg (by omega)]
  | succ d ih =>
    intro k i hi hk
    obtain ⟨k, rfl⟩ : ∃ m, k = m + 1 := ⟨k - 1, by omega⟩
    rw [pleachref19_Same.l1, if_pos (by omega), if_pos (by omega), if_pos (by omega), if_pos rfl, M.wrap64_id (by omega) (by omega), show (i : Int) + 1 = ((i + 1 : Nat) : Int) from by omega]
    exact ih k (i + 1) (by omega) (by omega)
theorem same_entries (lv : Int) (es : List S29) (cs : List Int) (hc : cs.length ≤ 100) (he : es.length ≤ 100) (d : Nat) : ∀ (k i : Nat), i + d = es.length → d + cs.length + 1 < k → pleachref19_Same.l0 k (i : Int) lv es cs lv es cs = some true := by
  induction d with
  | zero =>
    intro k i hi hk
    obtain ⟨k, rfl⟩ : ∃ m, k = m + 1 := ⟨k - 1, by omega⟩
    rw [pleachref19_Same.l0, if_neg (by omega)]
    exact same_nums lv es cs hc cs.length k 0 (by omega) (by omega)
  | succ d ih =>
    intro k i hi hk
    obtain ⟨k, rfl⟩ : ∃ m, k = m + 1 := ⟨k - 1, by omega⟩
    rw [pleachref19_Same.l0, if_pos (by omega), if_pos (by omega), if_pos (by omega), if_neg (by simp), M.wrap64_id (by omega) (by omega), show (i : Int) + 1 = ((i + 1 : Nat) : Int) from by omega]
    exact ih k (i + 1) (by omega) (by omega)
theorem same_self (lv : Int) (es : List S29) (cs : List Int) (hc : cs.length ≤ 8) (he : es.length ≤ 8) (k : Nat) (hk : 20 ≤ k) : pleachref19_Same.f k lv es cs lv es cs = some true := by
  obtain ⟨k, rfl⟩ : ∃ m, k = m + 1 := ⟨k - 1, by omega⟩
  unfold pleachref19_Same.f
  rw [if_pos rfl, if_pos rfl, show ((cs.length : Int) != (cs.length : Int)) = false from by simp, pleachref19_Same.j0, if_neg (by simp)]
  exact same_entries lv es cs (by omega) (by omega) es.length k 0 (by omega) (by omega)

theorem second (s : ByteArray) (hs : s.size ≤ 5000) (k : Nat) : pleachlaw19_ChunkBack.j1 (k + 2) s = some true := by
  have hj : pleachlaw19_ChunkBack.j2 (k + 1) = some true := by rw [pleachlaw19_ChunkBack.j2, awake]; rfl
  rw [pleachlaw19_ChunkBack.j1]
  unfold chunk_Take.f
  rw [if_pos (by omega), Option.bind_some]
  by_cases he : (chunk_Take.res s).2.2.2 = 0
  · obtain ⟨h1, h2⟩ := take_text (by omega) he
    obtain ⟨_, _, hl8, hcn, hc0, _⟩ := chunk_fits.wrong_ok h1
    have hl : (chunk_Take.res s).2.2.1.length ≤ 8 := by
      by_cases hl : (chunk_Take.res s).1 > 0
      · rw [(hcn hl).1]; exact hl8
      · rw [hc0 (by omega)]; simp
    unfold chunk_Put.f
    rw [if_pos he, if_pos ⟨by omega, by omega⟩, Option.bind_some, if_pos h1, h2, M.sb_bs]
    simp only
    rw [if_pos trivial, if_pos trivial]
    exact hj
  · rw [if_neg he]; exact hj

theorem ChunkBack : pleachlaw19_ChunkBack.Pure := by
  intro lv es cs s _ _ _ _
  refine ⟨60, ?_⟩
  obtain ⟨b, hb, hb2⟩ := few_loop lv es cs 21 60 0 0 rfl (by decide)
  unfold pleachlaw19_ChunkBack.f pleachlaw19_few.f
  rw [show ((0 : Nat) : Int) = 0 from rfl] at hb
  rw [hb, Option.bind_some]
  have ht : pleachlaw19_ChunkBack.j0 60 s true lv es cs = some true := by rw [pleachlaw19_ChunkBack.j0, if_pos rfl, awake]; rfl
  cases b with
  | false => rw [if_neg (by simp)]; exact ht
  | true =>
    rw [if_pos rfl]
    by_cases hs : (s.size : Int) > 5000
    · rw [decide_eq_true hs]; exact ht
    · rw [decide_eq_false hs, pleachlaw19_ChunkBack.j0, if_neg (by simp)]
      have hj := second s (by omega) 57
      have hlen := hb2 rfl
      · unfold chunk_Put.f
        rw [if_pos ⟨by omega, by omega⟩, Option.bind_some]
        by_cases hw : chunk_fits.wrong lv es cs = 0
        · obtain ⟨_, _, hl8, hcn, hc0, _⟩ := chunk_fits.wrong_ok hw
          have hl : cs.length ≤ 8 := by
            by_cases hl : lv > 0
            · rw [(hcn hl).1]; exact hl8
            · rw [hc0 (by omega)]; simp
          have hz := text_size hw
          rw [if_pos hw]
          simp only
          rw [if_pos trivial]
          unfold chunk_Take.f
          rw [if_pos (by rw [M.size_sb]; omega), Option.bind_some, take_back hw]
          simp only
          rw [same_self lv es cs hl hl8 59 (by decide), Option.bind_some, if_pos rfl, if_pos trivial]
          exact hj
        · rw [if_neg hw]
          simp only
          rw [if_neg hw]
          exact hj
end Go.Proofs.Ytccppdpmfegndaa.Pure
