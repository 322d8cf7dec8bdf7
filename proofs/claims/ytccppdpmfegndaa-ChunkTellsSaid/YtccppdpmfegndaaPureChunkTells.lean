/- The law ChunkTells: how much there is in any chunk, its last key, where a key stands, the chunk as a twig, and the chunk of two twigs: as the document says. No further condition. -/
import Derived.Test.YtccppdpmfegndaaEChunkTellsx8
namespace Go.Proofs.Ytccppdpmfegndaa.Pure
open Go.RowKit Go.Proofs.Ytccppdpmfegndaa.EChunkTells Go.Proofs.YtccppdpmfegndaaW.PrintWords Go.Proofs.YtccppdpmfegndaaW.PrintLast Go.Proofs.YtccppdpmfegndaaW.PrintMore
theorem awake : pleachlaw19_awake.f = some true := by
  have hw : chunk_fits.wrong 0 [] [] = 0 := by decide
  have ht : chunk_fits.text 0 [] [] = [76, 0] := by unfold chunk_fits.text; rw [if_neg (by decide)]; rfl
  unfold pleachlaw19_awake.f chunk_Put.f
  rw [if_pos (by decide), if_pos hw, ht, Option.bind_some, M.toList_bs, M.bs_sb, if_pos rfl]; rfl

theorem few_loop (lv : Int) (es : List S29) (cs : List Int) (d : Nat) : ∀ (k : Nat) (n : Int) (i : Nat), i + d = 21 → d < k → ∃ b, pleachlaw19_few.l0 k n (i : Int) lv es cs = some b ∧ (b = true → es.length ≤ 20 ∧ cs.length ≤ 20) := by
  induction d with
  | zero =>
    intro k n i hi hk
    obtain ⟨k, rfl⟩ : ∃ m, k = m + 1 := ⟨k - 1, by omega⟩
    rw [pleachlaw19_few.l0, if_neg (by omega : ¬ (i : Int) ≤ 20)]
    split
    · split
      · split
        · exact ⟨_, rfl, fun _ => ⟨by omega, by omega⟩⟩
        · exact ⟨_, rfl, fun z => by cases z⟩
      · exact ⟨_, rfl, fun z => by cases z⟩
    · split
      · split
        · exact ⟨_, rfl, fun _ => ⟨by omega, by omega⟩⟩
        · exact ⟨_, rfl, fun z => by cases z⟩
      · exact ⟨_, rfl, fun z => by cases z⟩
  | succ d ih =>
    intro k n i hi hk
    obtain ⟨k, rfl⟩ : ∃ m, k = m + 1 := ⟨k - 1, by omega⟩
    rw [pleachlaw19_few.l0, if_pos (by omega : (i : Int) ≤ 20), if_pos (by omega : 0 ≤ (i : Int))]
    split
    · rw [M.wrap64_id (i := (i : Int) + 1) (by omega) (by omega), show (i : Int) + 1 = ((i + 1 : Nat) : Int) from by omega]
      exact ih k _ (i + 1) (by omega) (by omega)
    · split
      · split
        · exact ⟨_, rfl, fun _ => ⟨by omega, by omega⟩⟩
        · exact ⟨_, rfl, fun z => by cases z⟩
      · exact ⟨_, rfl, fun z => by cases z⟩

theorem same_nums (lv : Int) (es : List S29) (cs : List Int) (hc : cs.length ≤ 100) (d : Nat) : ∀ (k i : Nat), i + d = cs.length → d < k → pleachref19_Same.l1 k (i : Int) lv es cs lv es cs = some true := by
  induction d with
  | zero =>
    intro k i hi hk
    obtain ⟨k, rfl⟩ : ∃ m, k = m + 1 := ⟨k - 1, by omega⟩
    rw [pleachref19_Same.l1, if_neg (by omega)]
  | succ d ih =>
    intro k i hi hk
    obtain ⟨k, rfl⟩ : ∃ m, k = m + 1 := ⟨k - 1, by omega⟩
    rw [pleachref19_Same.l1, if_pos (by omega), if_pos (by omega), if_pos (by omega), if_pos rfl, M.wrap64_id (by omega) (by omega), show (i : Int) + 1 = ((i + 1 : Nat) : Int) from by omega]
    exact ih k (i + 1) (by omega) (by omega)
theorem same_entries (lv : Int) (es : List S29) (cs : List Int) (hc : cs.length ≤ 100) (he : es.length ≤ 100) (d : Nat) : ∀ (k i : Nat), i + d = es.length → d + cs.length + 1 < k → pleachref19_Same.l0 k (i : Int) lv es cs lv es cs = some true := by
  induction d with
  | zero =>
    intro k i hi hk
    obtain ⟨k, rfl⟩ : ∃ m, k = m + 1 := ⟨k - 1, by omega⟩
    rw [pleachref19_Same.l0, if_neg (by omega)]
    exact same_nums lv es cs hc cs.length k 0 (by omega) (by omega)
  | succ d ih =>
    intro k i hi hk
    obtain ⟨k, rfl⟩ : ∃ m, k = m + 1 := ⟨k - 1, by omega⟩
    rw [pleachref19_Same.l0, if_pos (by omega), if_pos (by omega), if_pos (by omega), if_neg (by simp), M.wrap64_id (by omega) (by omega), show (i : Int) + 1 = ((i + 1 : Nat) : Int) from by omega]
    exact ih k (i + 1) (by omega) (by omega)
theorem same_self (lv : Int) (es : List S29) (cs : List Int) (hc : cs.length ≤ 8) (he : es.length ≤ 8) (k : Nat) (hk : 20 ≤ k) : pleachref19_Same.f k lv es cs lv es cs = some true := by
  obtain ⟨k, rfl⟩ : ∃ m, k = m + 1 := ⟨k - 1, by omega⟩
  unfold pleachref19_Same.f
  rw [if_pos rfl, if_pos rfl, show ((cs.length : Int) != (cs.length : Int)) = false from by simp, pleachref19_Same.j0, if_neg (by simp)]
  exact same_entries lv es cs (by omega) (by omega) es.length k 0 (by omega) (by omega)

/-- The counts, one behind the other. -/
def tl : Int → List Int → Int
  | a, [] => a
  | a, c :: l => tl (wrap64 (a + c)) l
def total (lv : Int) (es : List S29) (cs : List Int) : Int := if lv = 0 then (es.length : Int) else tl 0 cs
theorem ref_total_loop (lv : Int) (es : List S29) (cs : List Int) (hc : cs.length ≤ 20) (d : Nat) : ∀ (k i : Nat) (a : Int), i + d = cs.length → d < k → pleachref19_Total.l0 k a (i : Int) lv es cs = some (tl a (cs.drop i)) := by
  induction d with
  | zero =>
    intro k i a hi hk
    obtain ⟨k, rfl⟩ : ∃ m, k = m + 1 := ⟨k - 1, by omega⟩
    rw [pleachref19_Total.l0, if_neg (by omega), List.drop_of_length_le (by omega)]; rfl
  | succ d ih =>
    intro k i a hi hk
    obtain ⟨k, rfl⟩ : ∃ m, k = m + 1 := ⟨k - 1, by omega⟩
    have hlt : i < cs.length := by omega
    have hrd : rd cs (i : Int) = cs[i] := by simp [rd, List.getD, hlt]
    rw [pleachref19_Total.l0, if_pos (by omega), if_pos (by omega), hrd, M.wrap64_id (i := (i : Int) + 1) (by omega) (by omega), show (i : Int) + 1 = ((i + 1 : Nat) : Int) from by omega, ih k (i + 1) _ (by omega) (by omega), List.drop_eq_getElem_cons hlt]; rfl
theorem total_loop (cs : List Int) (hc : cs.length ≤ 20) (d : Nat) : ∀ (k i : Nat) (a : Int), i + d = cs.length → d < k → chunk_Total.l0 k a cs (cs.length : Int) (i : Int) = some (tl a (cs.drop i)) := by
  induction d with
  | zero =>
    intro k i a hi hk
    obtain ⟨k, rfl⟩ : ∃ m, k = m + 1 := ⟨k - 1, by omega⟩
    rw [chunk_Total.l0, if_neg (by omega), List.drop_of_length_le (by omega)]; rfl
  | succ d ih =>
    intro k i a hi hk
    obtain ⟨k, rfl⟩ : ∃ m, k = m + 1 := ⟨k - 1, by omega⟩
    have hlt : i < cs.length := by omega
    have hrd : rd cs (i : Int) = cs[i] := by simp [rd, List.getD, hlt]
    rw [chunk_Total.l0, if_pos (by omega), if_pos (by omega), if_pos (by omega), hrd, M.wrap64_id (i := (i : Int) + 1) (by omega) (by omega), show (i : Int) + 1 = ((i + 1 : Nat) : Int) from by omega, ih k (i + 1) _ (by omega) (by omega), List.drop_eq_getElem_cons hlt]; rfl
theorem ref_total (lv : Int) (es : List S29) (cs : List Int) (hc : cs.length ≤ 20) (k : Nat) (hk : 30 ≤ k) : pleachref19_Total.f k lv es cs = some (total lv es cs) := by
  unfold pleachref19_Total.f total
  by_cases h : lv = 0
  · rw [if_pos h, if_pos h]
  · rw [if_neg h, if_neg h]
    exact ref_total_loop lv es cs hc cs.length k 0 0 (by omega) (by omega)
theorem prog_total (lv : Int) (es : List S29) (cs : List Int) (hc : cs.length ≤ 20) (k : Nat) (hk : 30 ≤ k) : chunk_Total.f k lv es cs = some (total lv es cs) := by
  unfold chunk_Total.f total
  by_cases h : lv = 0
  · rw [if_pos h, if_pos h]
  · rw [if_neg h, if_neg h]
    exact total_loop cs hc cs.length k 0 0 (by omega) (by omega)

/-- How many keys at the front are less. -/
def lead (key : ByteArray) : List S29 → Nat
  | [] => 0
  | e :: l => if Op.bytesLess e.f0.toList key.toList = true then lead key l + 1 else 0
/-- The last key. -/
def lastK (a : ByteArray) : List S29 → ByteArray
  | [] => a
  | e :: l => lastK e.f0 l
theorem find_loop (key : ByteArray) (lv : Int) (es : List S29) (cs : List Int) (he : es.length ≤ 20) (d : Nat) : ∀ (k i : Nat), i + d = es.length → d < k → chunk_Find.l0 k key es (es.length : Int) (i : Int) lv es cs = some ((i + lead key (es.drop i) : Nat) : Int) := by
  induction d with
  | zero =>
    intro k i hi hk
    obtain ⟨k, rfl⟩ : ∃ m, k = m + 1 := ⟨k - 1, by omega⟩
    rw [chunk_Find.l0, if_neg (by omega), List.drop_of_length_le (by omega)]
    simp only [lead]
    congr 1; omega
  | succ d ih =>
    intro k i hi hk
    obtain ⟨k, rfl⟩ : ∃ m, k = m + 1 := ⟨k - 1, by omega⟩
    have hlt : i < es.length := by omega
    have hrd : rd_T29 es (i : Int) = es[i] := by simp [rd_T29, List.getD, hlt]
    rw [chunk_Find.l0, if_pos (by omega), if_pos (by omega), if_pos (by omega), hrd, M.wrap64_id (i := (i : Int) + 1) (by omega) (by omega), show (i : Int) + 1 = ((i + 1 : Nat) : Int) from by omega, ih k (i + 1) (by omega) (by omega), List.drop_eq_getElem_cons hlt, lead]
    split
    · congr 1; omega
    · congr 1
theorem last_key (es : List S29) (he : es.length ≤ 20) (lv : Int) (cs : List Int) : chunk_Last.f lv es cs = some (lastK (⟨#[]⟩ : ByteArray) es) := by
  have key : ∀ (l : List S29) (a : ByteArray) (h : l ≠ []), lastK a l = (l.getLast h).f0 := by
    intro l
    induction l with
    | nil => intro a h; exact absurd rfl h
    | cons e l ih =>
      intro a h
      cases l with
      | nil => rfl
      | cons f l => rw [lastK, ih _ (List.cons_ne_nil f l), List.getLast_cons (List.cons_ne_nil f l)]
  unfold chunk_Last.f
  by_cases h : es.length = 0
  · rw [if_pos (by omega), List.eq_nil_of_length_eq_zero h]; rfl
  · have hne : es ≠ [] := fun z => h (by rw [z]; rfl)
    rw [if_neg (by omega), M.wrap64_id (by omega) (by omega), if_pos (by omega), if_pos (by omega), key es _ hne, List.getLast_eq_getElem]
    congr 2
    have : ((es.length : Int) - 1).toNat = es.length - 1 := by omega
    simp [rd_T29, this, List.getD, show es.length - 1 < es.length from by omega]
theorem law_loop (x1 x2 : ByteArray) (x3 lv : Int) (es : List S29) (cs : List Int) (he : es.length ≤ 20) (m d : Nat) : ∀ (i n : Nat) (last : ByteArray), i + d = es.length → n ≤ i →
    pleachlaw19_ChunkTells.l0 (d + (m + 1)) x1 x2 x3 (n : Int) last es (es.length : Int) (i : Int) lv es cs =
    pleachlaw19_ChunkTells.l0 (m + 1) x1 x2 x3 (((if n = i then i + lead x1 (es.drop i) else n) : Nat) : Int) (lastK last (es.drop i)) es (es.length : Int) (es.length : Int) lv es cs := by
  induction d with
  | zero =>
    intro i n last hi hn
    rw [List.drop_of_length_le (by omega), Nat.zero_add, show i = es.length from by omega]
    simp only [lead, lastK]
    congr 2
    split <;> omega
  | succ d ih =>
    intro i n last hi hn
    have hlt : i < es.length := by omega
    have hrd : rd_T29 es (i : Int) = es[i] := by simp [rd_T29, List.getD, hlt]
    have hi1 : wrap64 ((i : Int) + 1) = ((i + 1 : Nat) : Int) := by rw [M.wrap64_id (by omega) (by omega)]; omega
    have hn1 : wrap64 ((n : Int) + 1) = ((n + 1 : Nat) : Int) := by rw [M.wrap64_id (by omega) (by omega)]; omega
    rw [show d + 1 + (m + 1) = (d + (m + 1)) + 1 from by omega, pleachlaw19_ChunkTells.l0, if_pos (by omega), if_pos (by omega), if_pos (by omega), hrd, hi1, hn1, List.drop_eq_getElem_cons hlt, lead, lastK]
    by_cases h : n = i
    · subst h
      rw [if_pos rfl, if_pos rfl]
      by_cases h2 : Op.bytesLess es[n].f0.toList x1.toList = true
      · rw [if_pos h2, if_pos h2, ih (n + 1) (n + 1) _ (by omega) (by omega), if_pos rfl]
        congr 2; omega
      · rw [if_neg h2, if_neg h2, ih (n + 1) n _ (by omega) (by omega), if_neg (by omega)]; rfl
    · rw [if_neg (by omega), if_neg h, ih (i + 1) n _ (by omega) (by omega), if_neg (by omega)]
theorem over_two (k : Nat) (lv : Int) (a b : S32) : chunk_Over.f (k + 3) lv [a, b] = some (lv, [⟨a.f0, a.f1⟩, ⟨b.f0, b.f1⟩], [a.f2, b.f2]) := by
  have r0 : rd_T32 [a, b] 0 = a := rfl
  have r1 : rd_T32 [a, b] 1 = b := rfl
  have w1 : wrap64 (0 + 1) = 1 := M.wrap64_id (by decide) (by decide)
  have w2 : wrap64 (1 + 1) = 2 := M.wrap64_id (by decide) (by decide)
  unfold chunk_Over.f
  rw [show (([a, b] : List S32).length : Int) = 2 from rfl]
  rw [chunk_Over.l0, if_pos (by decide), if_pos (by decide), if_pos (by show (0 : Int) < 2; decide), if_pos (by decide), if_pos (by decide), r0, w1]
  rw [chunk_Over.l0, if_pos (by decide), if_pos (by decide), if_pos (by show (1 : Int) < 2; decide), if_pos (by show 1 < _; decide), if_pos (by show 1 < _; decide), r1, w2]
  rw [chunk_Over.l0, if_neg (by decide)]; rfl

theorem ChunkTells : pleachlaw19_ChunkTells.Pure := by
  intro lv es cs x1 x2 x3 _ _ _ _ _ _
  obtain ⟨b, hb, hb2⟩ := few_loop lv es cs 21 (es.length + 61) 0 0 rfl (by omega)
  refine ⟨es.length + 61, ?_⟩
  unfold pleachlaw19_ChunkTells.f pleachlaw19_few.f
  rw [show ((0 : Nat) : Int) = 0 from rfl] at hb
  rw [hb, Option.bind_some]
  cases b with
  | false => rw [if_neg (by simp), awake]; rfl
  | true =>
    obtain ⟨he, hc⟩ := hb2 rfl
    have hl := law_loop x1 x2 x3 lv es cs he 60 es.length 0 0 (⟨#[]⟩ : ByteArray) (by omega) (Nat.le_refl _)
    have hf := find_loop x1 lv es cs he es.length 60 0 (by omega) (by omega)
    rw [if_pos rfl, List.drop_zero, Nat.zero_add, show ((0 : Nat) : Int) = 0 from rfl] at hl
    rw [List.drop_zero, Nat.zero_add, show ((0 : Nat) : Int) = 0 from rfl] at hf
    have hk := last_key es he lv cs
    rw [if_pos rfl, hl, pleachlaw19_ChunkTells.l0, if_neg (by omega), ref_total lv es cs hc 60 (by decide), prog_total lv es cs hc 60 (by decide)]
    simp only [Option.bind_some]
    rw [if_pos trivial, hk]
    simp only [Option.bind_some]
    rw [if_pos trivial]
    unfold chunk_Find.f chunk_Twig.f
    rw [hf, hk, prog_total lv es cs hc 60 (by decide)]
    simp only [Option.bind_some]
    rw [if_pos trivial, if_pos (by simp), over_two 57]
    simp only [Option.bind_some]
    rw [same_self x3 _ _ (by simp) (by simp) 60 (by decide), Option.bind_some, if_pos rfl, awake]; rfl
end Go.Proofs.Ytccppdpmfegndaa.Pure
