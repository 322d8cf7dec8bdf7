/- The law RefsRecords: the records that make any refs of none do; and all that refs name. No further condition. -/
import Derived.Test.YtkaglpjdeinbhaaERefsRecordsx10
namespace Go.Proofs.Ytkaglpjdeinbhaa.Pure
open Go.RowKit Go.Proofs.Ytkaglpjdeinbhaa.ERefsRecords Go.Proofs.YtkaglpjdeinbhaaW.PrintWords Go.Proofs.YtkaglpjdeinbhaaW.PrintLast Go.Proofs.YtkaglpjdeinbhaaW.PrintMore
theorem few_loop (l : List S42) (hl : l.length ≤ 9223372036854775807) (d : Nat) : ∀ (i : Nat) (n : Int), i + d = 71 → 0 ≤ n → n ≤ 10000 * (i : Int) → ∃ b, (b = true → l.length ≤ 70) ∧ ∀ k, d + 1 ≤ k → pleachref37_Few.l0 k l n (i : Int) = some b := by
  have key : ∀ (i : Nat) (n : Int), i + d = 71 → ∀ k, (¬ (i : Int) < (l.length : Int) ∨ ¬ (i : Int) ≤ 70) → pleachref37_Few.l0 (k + 1) l n (i : Int) = some (decide ((l.length : Int) ≤ 70) && decide (n ≤ 5000)) := by
    intro i n hi k hc
    have fin : (if (l.length : Int) ≤ 70 then (some (decide (n ≤ 5000))) else (some false)) = some (decide ((l.length : Int) ≤ 70) && decide (n ≤ 5000)) := by
      by_cases h : (l.length : Int) ≤ 70
      · rw [if_pos h, decide_eq_true h, Bool.true_and]
      · rw [if_neg h, decide_eq_false h, Bool.false_and]
    rw [pleachref37_Few.l0]
    by_cases h1 : (i : Int) < (l.length : Int)
    · rw [if_pos h1, if_neg (hc.resolve_left (fun z => z h1)), fin]
    · rw [if_neg h1, fin]
  have stop : ∀ (i : Nat) (n : Int), i + d = 71 → (¬ (i : Int) < (l.length : Int) ∨ ¬ (i : Int) ≤ 70) → ∃ b, (b = true → l.length ≤ 70) ∧ ∀ k, d + 1 ≤ k → pleachref37_Few.l0 k l n (i : Int) = some b := by
    intro i n hi hc
    refine ⟨decide ((l.length : Int) ≤ 70) && decide (n ≤ 5000), fun h => ?_, fun k hk => ?_⟩
    · have := of_decide_eq_true ((Bool.and_eq_true _ _).mp h).1
      omega
    · obtain ⟨m, rfl⟩ : ∃ m, k = m + 1 := ⟨k - 1, by omega⟩
      exact key i n hi m hc
  induction d with
  | zero => intro i n hi _ _; exact stop i n hi (.inr (by omega))
  | succ d ih =>
    intro i n hi h0 h1
    by_cases hc : (i : Int) < (l.length : Int)
    · have b1 : (0 : Int) ≤ mn ((rd_T42 l (i : Int)).f1.size : Int) 5000 ∧ mn ((rd_T42 l (i : Int)).f1.size : Int) 5000 ≤ 5000 := by unfold mn; split <;> omega
      have b2 : (0 : Int) ≤ mn ((rd_T42 l (i : Int)).f2.size : Int) 5000 ∧ mn ((rd_T42 l (i : Int)).f2.size : Int) 5000 ≤ 5000 := by unfold mn; split <;> omega
      obtain ⟨b, hb, hk⟩ := ih (fun i n hi k hc => by
        have fin : (if (l.length : Int) ≤ 70 then (some (decide (n ≤ 5000))) else (some false)) = some (decide ((l.length : Int) ≤ 70) && decide (n ≤ 5000)) := by
          by_cases h : (l.length : Int) ≤ 70
          · rw [if_pos h, decide_eq_true h, Bool.true_and]
          · rw [if_neg h, decide_eq_false h, Bool.false_and]
        rw [pleachref37_Few.l0]
        by_cases h1 : (i : Int) < (l.length : Int)
        · rw [if_pos h1, if_neg (hc.resolve_left (fun z => z h1)), fin]
        · rw [if_neg h1, fin]) (fun i n hi hc => by
        refine ⟨decide ((l.length : Int) ≤ 70) && decide (n ≤ 5000), fun h => ?_, fun k hk => ?_⟩
        · have := of_decide_eq_true ((Bool.and_eq_true _ _).mp h).1
          omega
        · obtain ⟨m, rfl⟩ : ∃ m, k = m + 1 := ⟨k - 1, by omega⟩
          have fin : (if (l.length : Int) ≤ 70 then (some (decide (n ≤ 5000))) else (some false)) = some (decide ((l.length : Int) ≤ 70) && decide (n ≤ 5000)) := by
            by_cases h : (l.length : Int) ≤ 70
            · rw [if_pos h, decide_eq_true h, Bool.true_and]
            · rw [if_neg h, decide_eq_false h, Bool.false_and]
          rw [pleachref37_Few.l0]
          by_cases h1 : (i : Int) < (l.length : Int)
          · rw [if_pos h1, if_neg (hc.resolve_left (fun z => z h1)), fin]
          · rw [if_neg h1, fin]) (i + 1) (n + mn ((rd_T42 l (i : Int)).f1.size : Int) 5000 + mn ((rd_T42 l (i : Int)).f2.size : Int) 5000) (by omega) (by omega) (by omega)
      refine ⟨b, hb, fun k hk' => ?_⟩
      obtain ⟨m, rfl⟩ : ∃ m, k = m + 1 := ⟨k - 1, by omega⟩
      rw [pleachref37_Few.l0, if_pos hc, if_pos (by omega), if_pos (by omega), M.wrap64_id (i := n + _) (by omega) (by omega), M.wrap64_id (by omega) (by omega), M.wrap64_id (by omega) (by omega), show (i : Int) + 1 = ((i + 1 : Nat) : Int) by omega, hk m (by omega)]
    · exact stop i n hi (.inl hc)
theorem few (l : List S42) (hl : l.length ≤ 9223372036854775807) : ∃ b, (b = true → l.length ≤ 70) ∧ ∀ k, 72 ≤ k → pleachref37_Few.f k l = some b := few_loop l hl 71 0 0 rfl (by omega) (by omega)
theorem nil_ : (⟨#[]⟩ : ByteArray).toList = [] := by rw [M.toList_bs]; rfl
theorem one_ (c : UInt8) : (⟨#[c]⟩ : ByteArray).toList ≠ [] := by rw [M.toList_bs]; exact fun h => by cases h
theorem name_size {s : ByteArray} (h : M.isName s = true) : s.size ≤ 12 := by
  unfold M.isName at h
  exact (of_decide_eq_true ((Bool.and_eq_true _ _).mp h).2).2
theorem rset_wr (l : List S42) (k : Int) (s old now : ByteArray) (hw : M.wr S42.f0 S42.f1 S42.f2 l = 0) (h : (M.rset S42.f0 S42.f1 S42.f2 S42.mk l k s old now).2 = 0) : M.wr S42.f0 S42.f1 S42.f2 (M.rset S42.f0 S42.f1 S42.f2 S42.mk l k s old now).1 = 0 := by
  obtain ⟨h64, hok, hp⟩ := (M.wr_zero S42.f0 S42.f1 S42.f2 l).1 hw
  obtain ⟨A, B, hA, hB, hcase⟩ := refs_Set.found l k s hw
  by_cases c1 : ¬ ((k = 1 ∨ k = 2) ∧ M.isName s = true) ∨ (old = ⟨#[]⟩ ∧ now = ⟨#[]⟩)
  · unfold M.rset at h; rw [if_pos c1] at h; cases h
  by_cases c2 : M.rget S42.f0 S42.f1 S42.f2 l k s = old
  · by_cases c3 : old = ⟨#[]⟩ ∧ 64 ≤ l.length
    · unfold M.rset at h; rw [if_neg c1, if_pos c2, if_pos c3] at h; cases h
    have e : M.rset S42.f0 S42.f1 S42.f2 S42.mk l k s old now = (A ++ (if now = ⟨#[]⟩ then [] else [S42.mk k s now]) ++ B, 0) := by
      unfold M.rset; rw [if_neg c1, if_pos c2, if_neg c3, ← hA, ← hB]
    rw [e, M.wr_zero]
    have d1 : (k = 1 ∨ k = 2) ∧ M.isName s = true := Classical.byContradiction (fun z => c1 (.inl z))
    have sA : ∀ x ∈ A, x ∈ l ∧ M.rless x.f0 x.f1 k s := fun x hx => by rw [hA] at hx; exact ⟨(List.mem_filter.1 hx).1, of_decide_eq_true (List.mem_filter.1 hx).2⟩
    have sB : ∀ x ∈ B, x ∈ l ∧ M.rless k s x.f0 x.f1 := fun x hx => by rw [hB] at hx; exact ⟨(List.mem_filter.1 hx).1, of_decide_eq_true (List.mem_filter.1 hx).2⟩
    have sM : ∀ x ∈ (if now = ⟨#[]⟩ then [] else [S42.mk k s now]), x.f0 = k ∧ x.f1 = s ∧ M.rok S42.f0 S42.f1 S42.f2 x := by
      intro x hx
      by_cases c : now = ⟨#[]⟩
      · rw [if_pos c] at hx; cases hx
      · rw [if_neg c] at hx
        rw [List.mem_singleton.1 hx]
        exact ⟨rfl, rfl, d1.1, d1.2, fun z => c (M.text_none.1 z)⟩
    have lM : (if now = ⟨#[]⟩ then [] else [S42.mk k s now]).length ≤ 1 := by split <;> simp
    have pM : List.Pairwise (fun x y : S42 => M.rless x.f0 x.f1 y.f0 y.f1) (if now = ⟨#[]⟩ then [] else [S42.mk k s now]) := by split <;> simp
    generalize (if now = ⟨#[]⟩ then [] else [S42.mk k s now]) = mm at *
    refine ⟨?_, ?_, ?_⟩
    · show (A ++ mm ++ B).length ≤ 64
      rw [List.length_append, List.length_append]
      rcases hcase with ⟨el, eg, _⟩ | ⟨x, el, _⟩
      · have hl : l.length = A.length + B.length := by rw [← List.length_append, ← el]
        have : ¬ 64 ≤ l.length := fun z => c3 ⟨by rw [← c2, eg], z⟩
        omega
      · have hl : l.length = A.length + (B.length + 1) := by rw [← List.length_cons, ← List.length_append, ← el]
        omega
    · intro x hx
      rcases List.mem_append.1 hx with hx | hx
      · rcases List.mem_append.1 hx with hx | hx
        · exact hok x (sA x hx).1
        · exact (sM x hx).2.2
      · exact hok x (sB x hx).1
    · show List.Pairwise _ (A ++ mm ++ B)
      rw [List.pairwise_append, List.pairwise_append]
      refine ⟨⟨by rw [hA]; exact hp.filter _, pM, fun a ha b hb => ?_⟩, by rw [hB]; exact hp.filter _, fun a ha b hb => ?_⟩
      · obtain ⟨q1, q2, _⟩ := sM b hb
        have := (sA a ha).2
        rw [q1, q2]; exact this
      · rcases List.mem_append.1 ha with ha | ha
        · exact M.rless_trans (sA a ha).2 (sB b hb).2
        · obtain ⟨q1, q2, _⟩ := sM a ha
          have := (sB b hb).2
          rw [q1, q2]; exact this
  · exfalso
    unfold M.rset at h
    rw [if_neg c1, if_neg c2] at h
    split at h
    · cases h
    · split at h <;> cases h
theorem same_loop (a : List S42) (ha : a.length ≤ 1000000) (d : Nat) : ∀ i, i + d = a.length → ∀ k, d + 1 ≤ k → pleachref37_Same.l0 k a a (a.length : Int) (i : Int) = some true := by
  induction d with
  | zero =>
    intro i hi k hk
    obtain ⟨m, rfl⟩ : ∃ m, k = m + 1 := ⟨k - 1, by omega⟩
    rw [pleachref37_Same.l0, if_neg (by omega)]
  | succ d ih =>
    intro i hi k hk
    obtain ⟨m, rfl⟩ : ∃ m, k = m + 1 := ⟨k - 1, by omega⟩
    rw [pleachref37_Same.l0, if_pos (by omega), if_pos (by omega), if_pos (by omega), if_pos (by omega), if_neg (by simp), M.wrap64_id (by omega) (by omega), show (i : Int) + 1 = ((i + 1 : Nat) : Int) by omega, ih (i + 1) (by omega) m (by omega)]
theorem same (a : List S42) (ha : a.length ≤ 1000000) (k : Nat) (hk : a.length + 1 ≤ k) : pleachref37_Same.f k a a = some true := by
  unfold pleachref37_Same.f
  rw [if_pos rfl]
  exact same_loop a ha a.length 0 (by omega) k hk
theorem awake : pleachlaw37_awake.f = some true := by
  have w0 : M.wr S42.f0 S42.f1 S42.f2 [] = 0 := rfl
  have hx : (⟨#[120]⟩ : ByteArray) ≠ ⟨#[]⟩ := fun z => one_ 120 (M.text_none.2 z)
  have hy : (⟨#[121]⟩ : ByteArray) ≠ ⟨#[]⟩ := fun z => one_ 121 (M.text_none.2 z)
  have n1 : ((1 : Int) = 1 ∨ (1 : Int) = 2) ∧ M.isName ⟨#[97]⟩ = true := ⟨.inl rfl, rfl⟩
  have r1 : M.rset S42.f0 S42.f1 S42.f2 S42.mk [] 1 ⟨#[97]⟩ ⟨#[]⟩ ⟨#[120]⟩ = ([⟨1, ⟨#[97]⟩, ⟨#[120]⟩⟩], 0) := by
    have c0 : ¬ (¬ (((1 : Int) = 1 ∨ (1 : Int) = 2) ∧ M.isName ⟨#[97]⟩ = true) ∨ ((⟨#[]⟩ : ByteArray) = ⟨#[]⟩ ∧ (⟨#[120]⟩ : ByteArray) = ⟨#[]⟩)) := fun z => z.elim (fun z => z n1) (fun z => hx z.2)
    have c1 : M.rget S42.f0 S42.f1 S42.f2 [] 1 ⟨#[97]⟩ = ⟨#[]⟩ := rfl
    have c2 : ¬ ((⟨#[]⟩ : ByteArray) = ⟨#[]⟩ ∧ 64 ≤ ([] : List S42).length) := fun z => by have := z.2; simp at this
    unfold M.rset
    rw [if_neg c0, if_pos c1, if_neg c2, if_neg hx]; rfl
  have w1 : M.wr S42.f0 S42.f1 S42.f2 [⟨1, ⟨#[97]⟩, ⟨#[120]⟩⟩] = 0 := by
    have := rset_wr [] 1 ⟨#[97]⟩ ⟨#[]⟩ ⟨#[120]⟩ w0 (by rw [r1])
    rw [r1] at this; exact this
  have r2 : M.rset S42.f0 S42.f1 S42.f2 S42.mk [⟨1, ⟨#[97]⟩, ⟨#[120]⟩⟩] 1 ⟨#[97]⟩ ⟨#[]⟩ ⟨#[121]⟩ = ([], 10) := by
    have c0 : ¬ (¬ (((1 : Int) = 1 ∨ (1 : Int) = 2) ∧ M.isName ⟨#[97]⟩ = true) ∨ ((⟨#[]⟩ : ByteArray) = ⟨#[]⟩ ∧ (⟨#[121]⟩ : ByteArray) = ⟨#[]⟩)) := fun z => z.elim (fun z => z n1) (fun z => hy z.2)
    have c1 : M.rget S42.f0 S42.f1 S42.f2 [⟨1, ⟨#[97]⟩, ⟨#[120]⟩⟩] 1 ⟨#[97]⟩ = ⟨#[120]⟩ := by
      unfold M.rget
      rw [List.find?_cons_of_pos (show M.req S42.f0 S42.f1 1 ⟨#[97]⟩ ⟨1, ⟨#[97]⟩, ⟨#[120]⟩⟩ = true from decide_eq_true ⟨rfl, rfl⟩)]; rfl
    have c2 : ¬ M.rget S42.f0 S42.f1 S42.f2 [⟨1, ⟨#[97]⟩, ⟨#[120]⟩⟩] 1 ⟨#[97]⟩ = ⟨#[]⟩ := by rw [c1]; exact hx
    unfold M.rset
    rw [if_neg c0, if_neg c2, if_pos rfl]
  have s1 : refs_Set.f [] 1 ⟨#[97]⟩ ⟨#[]⟩ ⟨#[120]⟩ = some ([⟨1, ⟨#[97]⟩, ⟨#[120]⟩⟩], 0) := by
    unfold refs_Set.f; rw [if_pos ⟨w0, by decide⟩, r1]
  have s2 : refs_Set.f [⟨1, ⟨#[97]⟩, ⟨#[120]⟩⟩] 1 ⟨#[97]⟩ ⟨#[]⟩ ⟨#[121]⟩ = some ([], 10) := by
    unfold refs_Set.f; rw [if_pos ⟨w1, by decide⟩, r2]
  unfold pleachlaw37_awake.f
  rw [s1, Option.bind_some, s2]
  rfl
theorem refWith {l : List ByteArray} (hl : l.length ≤ 1000) (s : ByteArray) : pleachref05_With.f l s = some (if s ∈ l then l else M.ins l s) := by
  have hc := M.cnt_le l s
  unfold pleachref05_With.f pleachref05_In.f pleachref05_Less.f
  rw [if_pos (by omega), Option.bind_some]
  by_cases hs : s ∈ l
  · rw [if_pos hs, if_pos (by simp only [decide_eq_true hs])]
  · rw [if_neg hs, if_neg (by simp only [decide_eq_false hs]; simp), if_pos (by omega), Option.bind_some, Option.bind_some, if_pos (by omega), if_pos (by omega), if_pos (by simp; omega), Option.bind_some, Option.bind_some, if_pos (by simp; omega), Option.bind_some, if_pos (by simp; omega), Int.toNat_natCast, List.nil_append, List.append_assoc]; rfl
theorem rd_mem (l : List S36) (i : Nat) (h : i < l.length) : rd_T36 l (i : Int) ∈ l := by
  have : rd_T36 l (i : Int) = l[i] := by unfold rd_T36; simp [h]
  rw [this]; exact List.getElem_mem h
theorem play (q : List S36) (hq : ∀ x ∈ q, x.f3.size ≤ 9223372036854775807) (hl : q.length ≤ 9223372036854775807) (d : Nat) : ∀ (i : Nat) (out : List S42), i + d = q.length → M.wr S42.f0 S42.f1 S42.f2 out = 0 →
    ∃ R : List S42 × Int, ∀ k, d + 1 ≤ k → refs_Play.l0 k out q (q.length : Int) (i : Int) = some R := by
  induction d with
  | zero =>
    intro i out hi hw
    refine ⟨(out, 0), fun k hk => ?_⟩
    obtain ⟨m, rfl⟩ : ∃ m, k = m + 1 := ⟨k - 1, by omega⟩
    rw [refs_Play.l0, if_neg (by omega)]
  | succ d ih =>
    intro i out hi hw
    have hsz := hq _ (rd_mem q i (by omega))
    have g1 : (i : Int) < (q.length : Int) := by omega
    have g2 : (0 : Int) ≤ (i : Int) := by omega
    have g3 : wrap64 ((i : Int) + 1) = ((i + 1 : Nat) : Int) := by rw [M.wrap64_id (by omega) (by omega)]; omega
    obtain ⟨T, hT⟩ : ∃ T, T = M.rset S42.f0 S42.f1 S42.f2 S42.mk out (rd_T36 q (i : Int)).f2 (rd_T36 q (i : Int)).f3 (rd_T36 q (i : Int)).f4 (rd_T36 q (i : Int)).f5 := ⟨_, rfl⟩
    have e1 : refs_Set.f out (rd_T36 q (i : Int)).f2 (rd_T36 q (i : Int)).f3 (rd_T36 q (i : Int)).f4 (rd_T36 q (i : Int)).f5 = some T := by unfold refs_Set.f; rw [if_pos ⟨hw, hsz⟩, hT]
    by_cases c : T.2 = 0
    · have hw2 : M.wr S42.f0 S42.f1 S42.f2 T.1 = 0 := by
        rw [hT] at c ⊢
        exact rset_wr _ _ _ _ _ hw c
      obtain ⟨R, hk⟩ := ih (i + 1) T.1 (by omega) hw2
      refine ⟨R, fun k hk' => ?_⟩
      obtain ⟨m, rfl⟩ : ∃ m, k = m + 1 := ⟨k - 1, by omega⟩
      rw [refs_Play.l0, if_pos g1, if_pos g2, if_pos g1, e1, Option.bind_some, if_pos c, g3]
      exact hk m (by omega)
    · refine ⟨([], T.2), fun k hk' => ?_⟩
      obtain ⟨m, rfl⟩ : ∃ m, k = m + 1 := ⟨k - 1, by omega⟩
      rw [refs_Play.l0, if_pos g1, if_pos g2, if_pos g1, e1, Option.bind_some, if_neg c]
theorem rd_drop (l : List S42) (i : Nat) (h : i < l.length) : l.drop i = rd_T42 l (i : Int) :: l.drop (i + 1) := by
  rw [List.drop_eq_getElem_cons h]
  congr 1
  unfold rd_T42
  simp [h]
theorem rd_take (l : List S42) (i : Nat) (h : i < l.length) : l.take (i + 1) = l.take i ++ [rd_T42 l (i : Int)] := by
  rw [List.take_succ_eq_append_getElem h]
  congr 2
  unfold rd_T42
  simp [h]
/-- The records of refs. -/
def recs (e tail num : Int) : Nat → List S42 → List S36
  | _, [] => []
  | i, x :: t => ⟨e, (i : Int), x.f0, x.f1, ⟨#[]⟩, x.f2, tail, num⟩ :: recs e tail num (i + 1) t
theorem recs_length (e tail num : Int) (l : List S42) : ∀ i, (recs e tail num i l).length = l.length := by
  induction l with
  | nil => intro i; rfl
  | cons x t ih => intro i; rw [recs, List.length_cons, ih, List.length_cons]
theorem recs_get (e tail num : Int) (l : List S42) : ∀ (b i : Nat), i < l.length → (recs e tail num b l)[i]? = some (⟨e, ((b + i : Nat) : Int), (rd_T42 l (i : Int)).f0, (rd_T42 l (i : Int)).f1, ⟨#[]⟩, (rd_T42 l (i : Int)).f2, tail, num⟩ : S36) := by
  induction l with
  | nil => intro b i hi; simp at hi
  | cons x t ih =>
    intro b i hi
    cases i with
    | zero => rfl
    | succ i =>
      have hr : rd_T42 (x :: t) ((i + 1 : Nat) : Int) = rd_T42 t (i : Int) := by unfold rd_T42; simp
      rw [recs, List.getElem?_cons_succ, ih (b + 1) i (by simpa using hi), hr, show b + 1 + i = b + (i + 1) by omega]
theorem recs_rd (e tail num : Int) (l : List S42) (i : Nat) (hi : i < l.length) : rd_T36 (recs e tail num 0 l) (i : Int) = ⟨e, (i : Int), (rd_T42 l (i : Int)).f0, (rd_T42 l (i : Int)).f1, ⟨#[]⟩, (rd_T42 l (i : Int)).f2, tail, num⟩ := by
  have := recs_get e tail num l 0 i hi
  unfold rd_T36
  rw [Int.toNat_natCast, List.getD_eq_getElem?_getD, this, Nat.zero_add]; rfl
theorem records_loop (e tail num : Int) (l : List S42) (hl : l.length ≤ 1000) (d : Nat) : ∀ (i : Nat) (out : List S36), i + d = l.length → out.length + d ≤ 1000 → ∀ k, d + 1 ≤ k → refs_Records.l0 k e tail num out l (l.length : Int) (i : Int) = some (out ++ recs e tail num i (l.drop i)) := by
  induction d with
  | zero =>
    intro i out hi ho k hk
    obtain ⟨m, rfl⟩ : ∃ m, k = m + 1 := ⟨k - 1, by omega⟩
    rw [refs_Records.l0, if_neg (by omega), List.drop_of_length_le (by omega), recs, List.append_nil]
  | succ d ih =>
    intro i out hi ho k hk
    obtain ⟨m, rfl⟩ : ∃ m, k = m + 1 := ⟨k - 1, by omega⟩
    rw [refs_Records.l0, if_pos (by omega), if_pos (by omega), if_pos (by omega), if_pos (by omega), M.wrap64_id (by omega) (by omega), show (i : Int) + 1 = ((i + 1 : Nat) : Int) by omega, ih (i + 1) _ (by omega) (by rw [List.length_append, List.length_singleton]; omega) m (by omega), rd_drop l i (by omega), recs, List.append_assoc]; rfl
theorem hashes_loop (l : List S42) (hl : l.length ≤ 1000) (d : Nat) : ∀ (i : Nat) (out : List ByteArray), i + d = l.length → out.length + d ≤ 1000 → ∀ k, d + 1 ≤ k → refs_Hashes.l0 k out l (l.length : Int) (i : Int) = some (M.compB (M.sortB (out ++ (l.drop i).map S42.f2))) := by
  induction d with
  | zero =>
    intro i out hi ho k hk
    obtain ⟨m, rfl⟩ : ∃ m, k = m + 1 := ⟨k - 1, by omega⟩
    have e1 : slices_Sort_string_string.f out = some (M.sortB out) := by unfold slices_Sort_string_string.f; rw [if_pos (by omega)]
    rw [refs_Hashes.l0, if_neg (by omega), e1, Option.bind_some, List.drop_of_length_le (by omega), List.map_nil, List.append_nil]; rfl
  | succ d ih =>
    intro i out hi ho k hk
    obtain ⟨m, rfl⟩ : ∃ m, k = m + 1 := ⟨k - 1, by omega⟩
    rw [refs_Hashes.l0, if_pos (by omega), if_pos (by omega), if_pos (by omega), if_pos (by omega), M.wrap64_id (by omega) (by omega), show (i : Int) + 1 = ((i + 1 : Nat) : Int) by omega, ih (i + 1) _ (by omega) (by rw [List.length_append, List.length_singleton]; omega) m (by omega), rd_drop l i (by omega), List.map_cons, List.append_assoc]; rfl
/-- Sorted and compacted: rising, and just the same texts. -/
theorem comp_sort (xs : List ByteArray) : M.rises (M.compB (M.sortB xs)) ∧ ∀ y, y ∈ M.compB (M.sortB xs) ↔ y ∈ xs := by
  obtain ⟨ys, hys⟩ : ∃ ys, ys = (xs.map fun x => x.data.toList).mergeSort fun x y => decide (x ≤ y) := ⟨_, rfl⟩
  have hs : ys.Pairwise fun x y => (decide (x ≤ y)) = true := by
    rw [hys]
    refine List.pairwise_mergeSort (fun a b c h1 h2 => ?_) (fun a b => ?_) _
    · exact decide_eq_true (List.le_trans (of_decide_eq_true h1) (of_decide_eq_true h2))
    · rcases List.le_total a b with h | h
      · simp [h]
      · simp [h]
  have hb : ((M.sortB xs).map fun x => x.data.toList) = ys := by
    unfold M.sortB
    rw [← hys, List.map_map]
    conv => rhs; rw [← List.map_id ys]
    apply List.map_congr_left
    intro x _
    simp
  have hp := M.compUp ys.toArray (fun i j hij hj => by
    have hj' : j < ys.length := by simpa using hj
    have := List.pairwise_iff_getElem.1 hs i j (by omega) hj' hij
    have h2 := (M.le_of_less _ _).1 (of_decide_eq_true this)
    rw [getElem!_pos ys.toArray j (by simpa using hj'), getElem!_pos ys.toArray i (by simp; omega)]
    simpa using h2) ys.length (by simp)
  have hc : M.compB (M.sortB xs) = (Lib.compactUpTo ys.toArray ys.length).map fun y => (⟨y.toArray⟩ : ByteArray) := by
    unfold M.compB Lib.compact
    rw [hb]
  rw [hc]
  have hd : ∀ a : List UInt8, (⟨a.toArray⟩ : ByteArray).data.toList = a := fun a => by simp
  constructor
  · unfold M.rises
    rw [List.pairwise_map]
    refine hp.2.imp ?_
    intro a b h
    rw [M.lt_data, hd, hd]; exact h
  · intro y
    rw [List.mem_map]
    have hm : ∀ a, a ∈ Lib.compactUpTo ys.toArray ys.length ↔ a ∈ ys := by
      intro a
      rw [hp.1]
      constructor
      · rintro ⟨i, hi, rfl⟩
        rw [getElem!_pos ys.toArray i (by simpa using hi)]
        simp
      · intro h
        obtain ⟨i, hi, rfl⟩ := List.mem_iff_getElem.1 h
        exact ⟨i, hi, by rw [getElem!_pos ys.toArray i (by simpa using hi)]; simp⟩
    have hx : ∀ a, a ∈ ys ↔ a ∈ xs.map fun x => x.data.toList := fun a => by rw [hys]; exact (List.mergeSort_perm _ _).mem_iff
    constructor
    · rintro ⟨a, ha, rfl⟩
      obtain ⟨x, h1, rfl⟩ := List.mem_map.1 ((hx a).1 ((hm a).1 ha))
      simpa using h1
    · intro h
      exact ⟨y.data.toList, (hm _).2 ((hx _).2 (List.mem_map.2 ⟨y, h, rfl⟩)), by simp⟩
/-- Refs that may be, made of none by their records. -/
theorem play_all (e tail num : Int) (l : List S42) (hw : M.wr S42.f0 S42.f1 S42.f2 l = 0) (d : Nat) : ∀ i : Nat, i + d = l.length → ∀ k, d + 1 ≤ k → refs_Play.l0 k (l.take i) (recs e tail num 0 l) ((recs e tail num 0 l).length : Int) (i : Int) = some (l, 0) := by
  obtain ⟨h64, hok, hp⟩ := (M.wr_zero S42.f0 S42.f1 S42.f2 l).1 hw
  have hrl := recs_length e tail num l 0
  induction d with
  | zero =>
    intro i hi k hk
    obtain ⟨m, rfl⟩ : ∃ m, k = m + 1 := ⟨k - 1, by omega⟩
    rw [refs_Play.l0, if_neg (by omega), List.take_of_length_le (by omega)]
  | succ d ih =>
    intro i hi k hk
    obtain ⟨m, rfl⟩ : ∃ m, k = m + 1 := ⟨k - 1, by omega⟩
    have hlt : i < l.length := by omega
    have hsub : ∀ y ∈ l.take i, y ∈ l := fun y hy => List.mem_of_mem_take hy
    have hwt : M.wr S42.f0 S42.f1 S42.f2 (l.take i) = 0 := (M.wr_zero S42.f0 S42.f1 S42.f2 _).2 ⟨by rw [List.length_take]; omega, fun y hy => hok y (hsub y hy), hp.sublist (List.take_sublist i l)⟩
    have hxm : rd_T42 l (i : Int) ∈ l := by
      have : rd_T42 l (i : Int) = l[i] := by unfold rd_T42; simp [hlt]
      rw [this]; exact List.getElem_mem hlt
    have hless : ∀ y ∈ l.take i, M.rless y.f0 y.f1 (rd_T42 l (i : Int)).f0 (rd_T42 l (i : Int)).f1 := by
      intro y hy
      have h2 := hp.sublist (List.take_sublist (i + 1) l)
      rw [rd_take l i hlt, List.pairwise_append] at h2
      exact h2.2.2 y hy _ (by simp)
    have hx := hok _ hxm
    have hset : refs_Set.f (l.take i) (rd_T42 l (i : Int)).f0 (rd_T42 l (i : Int)).f1 ⟨#[]⟩ (rd_T42 l (i : Int)).f2 = some (l.take (i + 1), 0) := by
      have hs12 := name_size hx.2.1
      unfold refs_Set.f
      rw [if_pos ⟨hwt, by omega⟩, rd_take l i hlt]
      generalize rd_T42 l (i : Int) = x at *
      have n2 : x.f2 ≠ ⟨#[]⟩ := fun z => hx.2.2 (M.text_none.2 z)
      have c0 : ¬ (¬ ((x.f0 = 1 ∨ x.f0 = 2) ∧ M.isName x.f1 = true) ∨ ((⟨#[]⟩ : ByteArray) = ⟨#[]⟩ ∧ x.f2 = ⟨#[]⟩)) := fun z => z.elim (fun z => z ⟨hx.1, hx.2.1⟩) (fun z => n2 z.2)
      have c1 : M.rget S42.f0 S42.f1 S42.f2 (l.take i) x.f0 x.f1 = ⟨#[]⟩ := by
        unfold M.rget
        have : (l.take i).find? (M.req S42.f0 S42.f1 x.f0 x.f1) = none := List.find?_eq_none.2 (fun y hy => by
          have h1 : M.req S42.f0 S42.f1 x.f0 x.f1 y = false := decide_eq_false (fun z => by
            have h2 := hless y hy
            rw [z.1, z.2] at h2
            exact M.rless_irrefl _ _ h2)
          rw [h1]; decide)
        rw [this]; rfl
      have c2 : ¬ ((⟨#[]⟩ : ByteArray) = ⟨#[]⟩ ∧ 64 ≤ (l.take i).length) := fun z => by have := z.2; rw [List.length_take] at this; omega
      have f1 : (l.take i).filter (M.rless_ S42.f0 S42.f1 x.f0 x.f1) = l.take i := List.filter_eq_self.2 (fun y hy => decide_eq_true (hless y hy))
      have f2 : (l.take i).filter (M.rmore S42.f0 S42.f1 x.f0 x.f1) = [] := List.filter_eq_nil_iff.2 (fun y hy => by
        have h1 : M.rmore S42.f0 S42.f1 x.f0 x.f1 y = false := decide_eq_false (M.rless_asymm (hless y hy))
        rw [h1]; decide)
      unfold M.rset
      rw [if_neg c0, if_pos c1, if_neg c2, if_neg n2, f1, f2, List.append_nil]
    rw [refs_Play.l0, if_pos (by omega), if_pos (by omega), if_pos (by omega), recs_rd e tail num l i hlt, M.wrap64_id (by omega) (by omega), show (i : Int) + 1 = ((i + 1 : Nat) : Int) by omega]
    show ((refs_Set.f (l.take i) (rd_T42 l (i : Int)).f0 (rd_T42 l (i : Int)).f1 ⟨#[]⟩ (rd_T42 l (i : Int)).f2).bind _) = _
    rw [hset, Option.bind_some, if_pos rfl]
    exact ih (i + 1) (by omega) m (by omega)
theorem wit_len (hs : List ByteArray) : ∀ w : List ByteArray, (hs.foldl M.wit w).length ≤ w.length + hs.length := by
  induction hs with
  | nil => intro w; simp
  | cons x t ih =>
    intro w
    have h1 := ih (M.wit w x)
    have h2 := M.wit_length w x
    rw [List.foldl_cons, List.length_cons]; omega
theorem main_loop (l : List S42) (e tail num : Int) (hl : l.length ≤ 70) (hg : ∀ x ∈ l, x.f1.size ≤ 9223372036854775807) (d : Nat) : ∀ i : Nat, i + d = l.length → ∀ k, d + 200 ≤ k → pleachlaw37_RefsRecords.l0 k l e tail num (recs e tail num 0 l) (((l.take i).map S42.f2).foldl M.wit []) l (l.length : Int) (i : Int) = some true := by
  have hrl := recs_length e tail num l 0
  induction d with
  | zero =>
    intro i hi k hk
    obtain ⟨m, rfl⟩ : ∃ m, k = m + 1 := ⟨k - 1, by omega⟩
    have e1 : refs_Hashes.f m l = some (M.compB (M.sortB (l.map S42.f2))) := by
      unfold refs_Hashes.f
      have := hashes_loop l (by omega) l.length 0 [] (by omega) (by rw [List.length_nil]; omega) m (by omega)
      rw [Int.ofNat_zero, List.drop_zero, List.nil_append] at this
      exact this
    have hW := M.foldl_wit (l := []) List.Pairwise.nil (l.map S42.f2)
    have hC := comp_sort (l.map S42.f2)
    have heq : M.compB (M.sortB (l.map S42.f2)) = (l.map S42.f2).foldl M.wit [] := M.rises_ext hC.1 hW.1 (fun x => by rw [hC.2, hW.2]; simp)
    have hlen := wit_len (l.map S42.f2) []
    rw [List.length_map, List.length_nil] at hlen
    have e2 : pleachplain_Texts.f (M.compB (M.sortB (l.map S42.f2))) ((l.map S42.f2).foldl M.wit []) = some true := by
      unfold pleachplain_Texts.f
      rw [if_pos (by rw [heq]; omega), decide_eq_true heq]
    have e4 : pleachref37_Wrong.f l = some (M.wr S42.f0 S42.f1 S42.f2 l) := by unfold pleachref37_Wrong.f; rw [if_pos ⟨hg, by omega⟩]
    have e0 : api_Ref_27.f [] = some [] := by unfold api_Ref_27.f; rw [if_pos (by decide)]
    rw [pleachlaw37_RefsRecords.l0, if_neg (by omega), List.take_of_length_le (by omega), e1, Option.bind_some, e2, Option.bind_some, if_pos rfl]
    by_cases hw : M.wr S42.f0 S42.f1 S42.f2 l = 0
    · have e3 : refs_Play.f m [] (recs e tail num 0 l) = some (l, 0) := by
        unfold refs_Play.f
        rw [e0, Option.bind_some]
        have := play_all e tail num l hw l.length 0 (by omega) m (by omega)
        rw [Int.ofNat_zero, List.take_zero] at this
        exact this
      rw [e3, Option.bind_some, e4, Option.bind_some, if_pos hw, same l (by omega) m (by omega), Option.bind_some, if_pos rfl, if_pos rfl, awake]; rfl
    · obtain ⟨R, hR⟩ := play (recs e tail num 0 l) (fun x hx => by
        obtain ⟨i, hi, rfl⟩ := List.mem_iff_getElem.1 hx
        have hil : i < l.length := by omega
        have h1 := recs_get e tail num l 0 i hil
        rw [List.getElem?_eq_getElem hi] at h1
        rw [Option.some.inj h1]
        refine hg _ ?_
        have : rd_T42 l (i : Int) = l[i] := by unfold rd_T42; simp [hil]
        rw [this]; exact List.getElem_mem hil) (by omega) (recs e tail num 0 l).length 0 [] (by omega) rfl
      have e3 : refs_Play.f m [] (recs e tail num 0 l) = some R := by
        unfold refs_Play.f
        rw [e0, Option.bind_some]
        exact hR m (by omega)
      rw [e3, Option.bind_some, e4, Option.bind_some, if_neg hw, awake]; rfl
  | succ d ih =>
    intro i hi k hk
    obtain ⟨m, rfl⟩ : ∃ m, k = m + 1 := ⟨k - 1, by omega⟩
    have hlt : i < l.length := by omega
    have hlen := wit_len ((l.take i).map S42.f2) []
    rw [List.length_map, List.length_take, List.length_nil] at hlen
    have e1 := refWith (l := ((l.take i).map S42.f2).foldl M.wit []) (by omega) (rd_T42 l (i : Int)).f2
    have hnext : M.wit (((l.take i).map S42.f2).foldl M.wit []) (rd_T42 l (i : Int)).f2 = ((l.take (i + 1)).map S42.f2).foldl M.wit [] := by
      rw [rd_take l i hlt, List.map_append, List.foldl_append]; rfl
    have e1' : pleachref05_With.f (((l.take i).map S42.f2).foldl M.wit []) (rd_T42 l (i : Int)).f2 = some (((l.take (i + 1)).map S42.f2).foldl M.wit []) := by rw [e1, ← hnext]; rfl
    rw [pleachlaw37_RefsRecords.l0, if_pos (by omega), if_pos (by omega), if_pos (by omega), e1', Option.bind_some, if_pos (by omega), recs_rd e tail num l i hlt, M.wrap64_id (by omega) (by omega), show (i : Int) + 1 = ((i + 1 : Nat) : Int) by omega, if_neg (by simp)]
    exact ih (i + 1) (by omega) m (by omega)
theorem RefsRecords : pleachlaw37_RefsRecords.Pure := by
  rintro l e tail num ⟨hg, hl⟩ _ _ _
  obtain ⟨b, hb, hf⟩ := few l hl
  refine ⟨400, ?_⟩
  unfold pleachlaw37_RefsRecords.f
  rw [hf _ (by omega), Option.bind_some]
  cases b with
  | false => rw [if_neg (by decide), awake]; rfl
  | true =>
    have h70 := hb rfl
    have e1 : refs_Records.f 400 e tail num l = some (recs e tail num 0 l) := by
      unfold refs_Records.f
      have := records_loop e tail num l (by omega) l.length 0 [] (by omega) (by rw [List.length_nil]; omega) 400 (by omega)
      rw [Int.ofNat_zero, List.drop_zero, List.nil_append] at this
      exact this
    rw [if_pos rfl, e1, Option.bind_some, if_pos (by rw [recs_length])]
    have := main_loop l e tail num h70 (fun x hx => (hg x hx).2.1) l.length 0 (by omega) 400 (by omega)
    rw [Int.ofNat_zero, List.take_zero, List.map_nil, List.foldl_nil] at this
    exact this
end Go.Proofs.Ytkaglpjdeinbhaa.Pure
