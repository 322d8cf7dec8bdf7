/- The law RefsPlays: what any records make of any refs is told as the document says. No further condition. -/
import Derived.Test.YtkaglpjdeinbhaaERefsPlaysx9
namespace Go.Proofs.Ytkaglpjdeinbhaa.Pure
open Go.RowKit Go.Proofs.Ytkaglpjdeinbhaa.ERefsPlays Go.Proofs.YtkaglpjdeinbhaaW.PrintWords Go.Proofs.YtkaglpjdeinbhaaW.PrintLast Go.Proofs.YtkaglpjdeinbhaaW.PrintMore
theorem few_loop (l : List S42) (hl : l.length ≤ 9223372036854775807) (d : Nat) : ∀ (i : Nat) (n : Int), i + d = 71 → 0 ≤ n → n ≤ 10000 * (i : Int) → ∃ b, (b = true → l.length ≤ 70) ∧ ∀ k, d + 1 ≤ k → pleachref37_Few.l0 k l n (i : Int) = some b := by
  have key : ∀ (i : Nat) (n : Int), i + d = 71 → ∀ k, (¬ (i : Int) < (l.length : Int) ∨ ¬ (i : Int) ≤ 70) → pleachref37_Few.l0 (k + 1) l n (i : Int) = some (decide ((l.length : Int) ≤ 70) && decide (n ≤ 5000)) := by
    intro i n hi k hc
    have fin : (if (l.length : Int) ≤ 70 then (some (decide (n ≤ 5000))) else (some false)) = some (decide ((l.length : Int) ≤ 70) && decide (n ≤ 5000)) := by
      by_cases h : (l.length : Int) ≤ 70
      · rw [if_pos h, decide_eq_true h, Bool.true_and]
      · rw [if_neg h, decide_eq_false h, Bool.false_and]
    rw [pleachref37_Few.l0]
    by_cases h1 : (i : Int) < (l.length : Int)
    · rw [if_pos h1, if_neg (hc.resolve_left (fun z => z h1)), fin]
    · rw [if_neg h1, fin]
  have stop : ∀ (i : Nat) (n : Int), i + d = 71 → (¬ (i : Int) < (l.length : Int) ∨ ¬ (i : Int) ≤ 70) → ∃ b, (b = true → l.length ≤ 70) ∧ ∀ k, d + 1 ≤ k → pleachref37_Few.l0 k l n (i : Int) = some b := by
    intro i n hi hc
    refine ⟨decide ((l.length : Int) ≤ 70) && decide (n ≤ 5000), fun h => ?_, fun k hk => ?_⟩
    · have := of_decide_eq_true ((Bool.and_eq_true _ _).mp h).1
      omega
    · obtain ⟨m, rfl⟩ : ∃ m, k = m + 1 := ⟨k - 1, by omega⟩
      exact key i n hi m hc
  induction d with
  | zero => intro i n hi _ _; exact stop i n hi (.inr (by omega))
  | succ d ih =>
    intro i n hi h0 h1
    by_cases hc : (i : Int) < (l.length : Int)
    · have b1 : (0 : Int) ≤ mn ((rd_T42 l (i : Int)).f1.size : Int) 5000 ∧ mn ((rd_T42 l (i : Int)).f1.size : Int) 5000 ≤ 5000 := by unfold mn; split <;> omega
      have b2 : (0 : Int) ≤ mn ((rd_T42 l (i : Int)).f2.size : Int) 5000 ∧ mn ((rd_T42 l (i : Int)).f2.size : Int) 5000 ≤ 5000 := by unfold mn; split <;> omega
      obtain ⟨b, hb, hk⟩ := ih (fun i n hi k hc => by
        have fin : (if (l.length : Int) ≤ 70 then (some (decide (n ≤ 5000))) else (some false)) = some (decide ((l.length : Int) ≤ 70) && decide (n ≤ 5000)) := by
          by_cases h : (l.length : Int) ≤ 70
          · rw [if_pos h, decide_eq_true h, Bool.true_and]
          · rw [if_neg h, decide_eq_false h, Bool.false_and]
        rw [pleachref37_Few.l0]
        by_cases h1 : (i : Int) < (l.length : Int)
        · rw [if_pos h1, if_neg (hc.resolve_left (fun z => z h1)), fin]
        · rw [if_neg h1, fin]) (fun i n hi hc => by
        refine ⟨decide ((l.length : Int) ≤ 70) && decide (n ≤ 5000), fun h => ?_, fun k hk => ?_⟩
        · have := of_decide_eq_true ((Bool.and_eq_true _ _).mp h).1
          omega
        · obtain ⟨m, rfl⟩ : ∃ m, k = m + 1 := ⟨k - 1, by omega⟩
          have fin : (if (l.length : Int) ≤ 70 then (some (decide (n ≤ 5000))) else (some false)) = some (decide ((l.length : Int) ≤ 70) && decide (n ≤ 5000)) := by
            by_cases h : (l.length : Int) ≤ 70
            · rw [if_pos h, decide_eq_true h, Bool.true_and]
            · rw [if_neg h, decide_eq_false h, Bool.false_and]
          rw [pleachref37_Few.l0]
          by_cases h1 : (i : Int) < (l.length : Int)
          · rw [if_pos h1, if_neg (hc.resolve_left (fun z => z h1)), fin]
          · rw [if_neg h1, fin]) (i + 1) (n + mn ((rd_T42 l (i : Int)).f1.size : Int) 5000 + mn ((rd_T42 l (i : Int)).f2.size : Int) 5000) (by omega) (by omega) (by omega)
      refine ⟨b, hb, fun k hk' => ?_⟩
      obtain ⟨m, rfl⟩ : ∃ m, k = m + 1 := ⟨k - 1, by omega⟩
      rw [pleachref37_Few.l0, if_pos hc, if_pos (by omega), if_pos (by omega), M.wrap64_id (i := n + _) (by omega) (by omega), M.wrap64_id (by omega) (by omega), M.wrap64_id (by omega) (by omega), show (i : Int) + 1 = ((i + 1 : Nat) : Int) by omega, hk m (by omega)]
    · exact stop i n hi (.inl hc)
theorem few (l : List S42) (hl : l.length ≤ 9223372036854775807) : ∃ b, (b = true → l.length ≤ 70) ∧ ∀ k, 72 ≤ k → pleachref37_Few.f k l = some b := few_loop l hl 71 0 0 rfl (by omega) (by omega)
theorem nil_ : (⟨#[]⟩ : ByteArray).toList = [] := by rw [M.toList_bs]; rfl
theorem one_ (c : UInt8) : (⟨#[c]⟩ : ByteArray).toList ≠ [] := by rw [M.toList_bs]; exact fun h => by cases h
theorem name_size {s : ByteArray} (h : M.isName s = true) : s.size ≤ 12 := by
  unfold M.isName at h
  exact (of_decide_eq_true ((Bool.and_eq_true _ _).mp h).2).2
theorem rset_wr (l : List S42) (k : Int) (s old now : ByteArray) (hw : M.wr S42.f0 S42.f1 S42.f2 l = 0) (h : (M.rset S42.f0 S42.f1 S42.f2 S42.mk l k s old now).2 = 0) : M.wr S42.f0 S42.f1 S42.f2 (M.rset S42.f0 S42.f1 S42.f2 S42.mk l k s old now).1 = 0 := by
  obtain ⟨h64, hok, hp⟩ := (M.wr_zero S42.f0 S42.f1 S42.f2 l).1 hw
  obtain ⟨A, B, hA, hB, hcase⟩ := refs_Set.found l k s hw
  by_cases c1 : ¬ ((k = 1 ∨ k = 2) ∧ M.isName s = true) ∨ (old = ⟨#[]⟩ ∧ now = ⟨#[]⟩)
  · unfold M.rset at h; rw [if_pos c1] at h; cases h
  by_cases c2 : M.rget S42.f0 S42.f1 S42.f2 l k s = old
  · by_cases c3 : old = ⟨#[]⟩ ∧ 64 ≤ l.length
    · unfold M.rset at h; rw [if_neg c1, if_pos c2, if_pos c3] at h; cases h
    have e : M.rset S42.f0 S42.f1 S42.f2 S42.mk l k s old now = (A ++ (if now = ⟨#[]⟩ then [] else [S42.mk k s now]) ++ B, 0) := by
      unfold M.rset; rw [if_neg c1, if_pos c2, if_neg c3, ← hA, ← hB]
    rw [e, M.wr_zero]
    have d1 : (k = 1 ∨ k = 2) ∧ M.isName s = true := Classical.byContradiction (fun z => c1 (.inl z))
    have sA : ∀ x ∈ A, x ∈ l ∧ M.rless x.f0 x.f1 k s := fun x hx => by rw [hA] at hx; exact ⟨(List.mem_filter.1 hx).1, of_decide_eq_true (List.mem_filter.1 hx).2⟩
    have sB : ∀ x ∈ B, x ∈ l ∧ M.rless k s x.f0 x.f1 := fun x hx => by rw [hB] at hx; exact ⟨(List.mem_filter.1 hx).1, of_decide_eq_true (List.mem_filter.1 hx).2⟩
    have sM : ∀ x ∈ (if now = ⟨#[]⟩ then [] else [S42.mk k s now]), x.f0 = k ∧ x.f1 = s ∧ M.rok S42.f0 S42.f1 S42.f2 x := by
      intro x hx
      by_cases c : now = ⟨#[]⟩
      · rw [if_pos c] at hx; cases hx
      · rw [if_neg c] at hx
        rw [List.mem_singleton.1 hx]
        exact ⟨rfl, rfl, d1.1, d1.2, fun z => c (M.text_none.1 z)⟩
    have lM : (if now = ⟨#[]⟩ then [] else [S42.mk k s now]).length ≤ 1 := by split <;> simp
    have pM : List.Pairwise (fun x y : S42 => M.rless x.f0 x.f1 y.f0 y.f1) (if now = ⟨#[]⟩ then [] else [S42.mk k s now]) := by split <;> simp
    generalize (if now = ⟨#[]⟩ then [] else [S42.mk k s now]) = mm at *
    refine ⟨?_, ?_, ?_⟩
    · show (A ++ mm ++ B).length ≤ 64
      rw [List.length_append, List.length_append]
      rcases hcase with ⟨el, eg, _⟩ | ⟨x, el, _⟩
      · have hl : l.length = A.length + B.length := by rw [← List.length_append, ← el]
        have : ¬ 64 ≤ l.length := fun z => c3 ⟨by rw [← c2, eg], z⟩
        omega
      · have hl : l.length = A.length + (B.length + 1) := by rw [← List.length_cons, ← List.length_append, ← el]
        omega
    · intro x hx
      rcases List.mem_append.1 hx with hx | hx
      · rcases List.mem_append.1 hx with hx | hx
        · exact hok x (sA x hx).1
        · exact (sM x hx).2.2
      · exact hok x (sB x hx).1
    · show List.Pairwise _ (A ++ mm ++ B)
      rw [List.pairwise_append, List.pairwise_append]
      refine ⟨⟨by rw [hA]; exact hp.filter _, pM, fun a ha b hb => ?_⟩, by rw [hB]; exact hp.filter _, fun a ha b hb => ?_⟩
      · obtain ⟨q1, q2, _⟩ := sM b hb
        have := (sA a ha).2
        rw [q1, q2]; exact this
      · rcases List.mem_append.1 ha with ha | ha
        · exact M.rless_trans (sA a ha).2 (sB b hb).2
        · obtain ⟨q1, q2, _⟩ := sM a ha
          have := (sB b hb).2
          rw [q1, q2]; exact this
  · exfalso
    unfold M.rset at h
    rw [if_neg c1, if_neg c2] at h
    split at h
    · cases h
    · split at h <;> cases h
theorem same_loop (a : List S42) (ha : a.length ≤ 1000000) (d : Nat) : ∀ i, i + d = a.length → ∀ k, d + 1 ≤ k → pleachref37_Same.l0 k a a (a.length : Int) (i : Int) = some true := by
  induction d with
  | zero =>
    intro i hi k hk
    obtain ⟨m, rfl⟩ : ∃ m, k = m + 1 := ⟨k - 1, by omega⟩
    rw [pleachref37_Same.l0, if_neg (by omega)]
  | succ d ih =>
    intro i hi k hk
    obtain ⟨m, rfl⟩ : ∃ m, k = m + 1 := ⟨k - 1, by omega⟩
    rw [pleachref37_Same.l0, if_pos (by omega), if_pos (by omega), if_pos (by omega), if_pos (by omega), if_neg (by simp), M.wrap64_id (by omega) (by omega), show (i : Int) + 1 = ((i + 1 : Nat) : Int) by omega, ih (i + 1) (by omega) m (by omega)]
theorem same (a : List S42) (ha : a.length ≤ 1000000) (k : Nat) (hk : a.length + 1 ≤ k) : pleachref37_Same.f k a a = some true := by
  unfold pleachref37_Same.f
  rw [if_pos rfl]
  exact same_loop a ha a.length 0 (by omega) k hk
theorem awake : pleachlaw37_awake.f = some true := by
  have w0 : M.wr S42.f0 S42.f1 S42.f2 [] = 0 := rfl
  have hx : (⟨#[120]⟩ : ByteArray) ≠ ⟨#[]⟩ := fun z => one_ 120 (M.text_none.2 z)
  have hy : (⟨#[121]⟩ : ByteArray) ≠ ⟨#[]⟩ := fun z => one_ 121 (M.text_none.2 z)
  have n1 : ((1 : Int) = 1 ∨ (1 : Int) = 2) ∧ M.isName ⟨#[97]⟩ = true := ⟨.inl rfl, rfl⟩
  have r1 : M.rset S42.f0 S42.f1 S42.f2 S42.mk [] 1 ⟨#[97]⟩ ⟨#[]⟩ ⟨#[120]⟩ = ([⟨1, ⟨#[97]⟩, ⟨#[120]⟩⟩], 0) := by
    have c0 : ¬ (¬ (((1 : Int) = 1 ∨ (1 : Int) = 2) ∧ M.isName ⟨#[97]⟩ = true) ∨ ((⟨#[]⟩ : ByteArray) = ⟨#[]⟩ ∧ (⟨#[120]⟩ : ByteArray) = ⟨#[]⟩)) := fun z => z.elim (fun z => z n1) (fun z => hx z.2)
    have c1 : M.rget S42.f0 S42.f1 S42.f2 [] 1 ⟨#[97]⟩ = ⟨#[]⟩ := rfl
    have c2 : ¬ ((⟨#[]⟩ : ByteArray) = ⟨#[]⟩ ∧ 64 ≤ ([] : List S42).length) := fun z => by have := z.2; simp at this
    unfold M.rset
    rw [if_neg c0, if_pos c1, if_neg c2, if_neg hx]; rfl
  have w1 : M.wr S42.f0 S42.f1 S42.f2 [⟨1, ⟨#[97]⟩, ⟨#[120]⟩⟩] = 0 := by
    have := rset_wr [] 1 ⟨#[97]⟩ ⟨#[]⟩ ⟨#[120]⟩ w0 (by rw [r1])
    rw [r1] at this; exact this
  have r2 : M.rset S42.f0 S42.f1 S42.f2 S42.mk [⟨1, ⟨#[97]⟩, ⟨#[120]⟩⟩] 1 ⟨#[97]⟩ ⟨#[]⟩ ⟨#[121]⟩ = ([], 10) := by
    have c0 : ¬ (¬ (((1 : Int) = 1 ∨ (1 : Int) = 2) ∧ M.isName ⟨#[97]⟩ = true) ∨ ((⟨#[]⟩ : ByteArray) = ⟨#[]⟩ ∧ (⟨#[121]⟩ : ByteArray) = ⟨#[]⟩)) := fun z => z.elim (fun z => z n1) (fun z => hy z.2)
    have c1 : M.rget S42.f0 S42.f1 S42.f2 [⟨1, ⟨#[97]⟩, ⟨#[120]⟩⟩] 1 ⟨#[97]⟩ = ⟨#[120]⟩ := by
      unfold M.rget
      rw [List.find?_cons_of_pos (show M.req S42.f0 S42.f1 1 ⟨#[97]⟩ ⟨1, ⟨#[97]⟩, ⟨#[120]⟩⟩ = true from decide_eq_true ⟨rfl, rfl⟩)]; rfl
    have c2 : ¬ M.rget S42.f0 S42.f1 S42.f2 [⟨1, ⟨#[97]⟩, ⟨#[120]⟩⟩] 1 ⟨#[97]⟩ = ⟨#[]⟩ := by rw [c1]; exact hx
    unfold M.rset
    rw [if_neg c0, if_neg c2, if_pos rfl]
  have s1 : refs_Set.f [] 1 ⟨#[97]⟩ ⟨#[]⟩ ⟨#[120]⟩ = some ([⟨1, ⟨#[97]⟩, ⟨#[120]⟩⟩], 0) := by
    unfold refs_Set.f; rw [if_pos ⟨w0, by decide⟩, r1]
  have s2 : refs_Set.f [⟨1, ⟨#[97]⟩, ⟨#[120]⟩⟩] 1 ⟨#[97]⟩ ⟨#[]⟩ ⟨#[121]⟩ = some ([], 10) := by
    unfold refs_Set.f; rw [if_pos ⟨w1, by decide⟩, r2]
  unfold pleachlaw37_awake.f
  rw [s1, Option.bind_some, s2]
  rfl
theorem rd_mem (l : List S36) (i : Nat) (h : i < l.length) : rd_T36 l (i : Int) ∈ l := by
  have : rd_T36 l (i : Int) = l[i] := by unfold rd_T36; simp [h]
  rw [this]; exact List.getElem_mem h
theorem play (q : List S36) (hq : ∀ x ∈ q, x.f3.size ≤ 9223372036854775807) (hl : q.length ≤ 9223372036854775807) (d : Nat) : ∀ (i : Nat) (out : List S42), i + d = q.length → M.wr S42.f0 S42.f1 S42.f2 out = 0 →
    ∃ R : List S42 × Int, R.1.length ≤ 100 ∧ ∀ k, d + 1 ≤ k → refs_Play.l0 k out q (q.length : Int) (i : Int) = some R ∧ pleachref37_Play.l0 k out q (q.length : Int) (i : Int) = some R := by
  induction d with
  | zero =>
    intro i out hi hw
    have := ((M.wr_zero S42.f0 S42.f1 S42.f2 out).1 hw).1
    refine ⟨(out, 0), by show out.length ≤ 100; omega, fun k hk => ?_⟩
    obtain ⟨m, rfl⟩ : ∃ m, k = m + 1 := ⟨k - 1, by omega⟩
    rw [refs_Play.l0, if_neg (by omega), pleachref37_Play.l0, if_neg (by omega)]
    exact ⟨rfl, rfl⟩
  | succ d ih =>
    intro i out hi hw
    have h64 := ((M.wr_zero S42.f0 S42.f1 S42.f2 out).1 hw).1
    have hsz := hq _ (rd_mem q i (by omega))
    have g1 : (i : Int) < (q.length : Int) := by omega
    have g2 : (0 : Int) ≤ (i : Int) := by omega
    have g3 : wrap64 ((i : Int) + 1) = ((i + 1 : Nat) : Int) := by rw [M.wrap64_id (by omega) (by omega)]; omega
    obtain ⟨T, hT⟩ : ∃ T, T = M.rset S42.f0 S42.f1 S42.f2 S42.mk out (rd_T36 q (i : Int)).f2 (rd_T36 q (i : Int)).f3 (rd_T36 q (i : Int)).f4 (rd_T36 q (i : Int)).f5 := ⟨_, rfl⟩
    have e1 : refs_Set.f out (rd_T36 q (i : Int)).f2 (rd_T36 q (i : Int)).f3 (rd_T36 q (i : Int)).f4 (rd_T36 q (i : Int)).f5 = some T := by unfold refs_Set.f; rw [if_pos ⟨hw, hsz⟩, hT]
    have e2 : pleachref37_Set.f out (rd_T36 q (i : Int)).f2 (rd_T36 q (i : Int)).f3 (rd_T36 q (i : Int)).f4 (rd_T36 q (i : Int)).f5 = some T := by unfold pleachref37_Set.f; rw [if_pos ⟨hsz, by omega⟩, hT]
    by_cases c : T.2 = 0
    · have hw2 : M.wr S42.f0 S42.f1 S42.f2 T.1 = 0 := by
        rw [hT] at c ⊢
        exact rset_wr _ _ _ _ _ hw c
      obtain ⟨R, hR, hk⟩ := ih (i + 1) T.1 (by omega) hw2
      refine ⟨R, hR, fun k hk' => ?_⟩
      obtain ⟨m, rfl⟩ : ∃ m, k = m + 1 := ⟨k - 1, by omega⟩
      obtain ⟨k1, k2⟩ := hk m (by omega)
      rw [refs_Play.l0, if_pos g1, if_pos g2, if_pos g1, e1, Option.bind_some, if_pos c, g3, pleachref37_Play.l0, if_pos g1, if_pos g2, if_pos g1, e2, Option.bind_some, if_pos c, g3]
      exact ⟨k1, k2⟩
    · refine ⟨([], T.2), by simp, fun k hk' => ?_⟩
      obtain ⟨m, rfl⟩ : ∃ m, k = m + 1 := ⟨k - 1, by omega⟩
      rw [refs_Play.l0, if_pos g1, if_pos g2, if_pos g1, e1, Option.bind_some, if_neg c, pleachref37_Play.l0, if_pos g1, if_pos g2, if_pos g1, e2, Option.bind_some, if_neg c]
      exact ⟨rfl, rfl⟩
theorem sizes (l : List S42) (q : List S36) (hq : q.length ≤ 9223372036854775807) (n : Nat) (hfin : ∀ k, n ≤ k → ((refs_Play.f k l q).bind fun bt195 => ((pleachref37_Play.f k l q).bind fun bt199 => ((pleachref37_Same.f k bt195.1 bt199.1).bind fun t203 => (if t203 = true then (if bt195.2 = bt199.2 then (pleachlaw37_awake.f.bind fun t204 => (some t204)) else (some false)) else (some false))))) = some true) (d : Nat) : ∀ i : Nat, i + d = q.length → ∀ k, n + d + 1 ≤ k → pleachlaw37_RefsPlays.l0 k l q q (q.length : Int) (i : Int) = some true := by
  induction d with
  | zero =>
    intro i hi k hk
    obtain ⟨m, rfl⟩ : ∃ m, k = m + 1 := ⟨k - 1, by omega⟩
    rw [pleachlaw37_RefsPlays.l0, if_neg (by omega)]
    exact hfin m (by omega)
  | succ d ih =>
    intro i hi k hk
    obtain ⟨m, rfl⟩ : ∃ m, k = m + 1 := ⟨k - 1, by omega⟩
    rw [pleachlaw37_RefsPlays.l0, if_pos (by omega), if_pos (by omega), if_pos (by omega), M.wrap64_id (by omega) (by omega), show (i : Int) + 1 = ((i + 1 : Nat) : Int) by omega, ih (i + 1) (by omega) m (by omega), awake]
    split
    · rfl
    · split
      · rfl
      · split <;> rfl
theorem RefsPlays : pleachlaw37_RefsPlays.Pure := by
  rintro l q ⟨hg, hl⟩ ⟨hgq, hlq⟩
  obtain ⟨b, hb, hf⟩ := few l hl
  refine ⟨2 * q.length + 300 + 1, ?_⟩
  have hbad : pleachlaw37_RefsPlays.j0 (2 * q.length + 300 + 1) l q true = some true := by rw [pleachlaw37_RefsPlays.j0, if_pos rfl, awake]; rfl
  unfold pleachlaw37_RefsPlays.f
  rw [hf _ (by omega), Option.bind_some]
  cases b with
  | false => rw [if_neg (by decide), hbad]
  | true =>
    have h70 := hb rfl
    have hw : pleachref37_Wrong.f l = some (M.wr S42.f0 S42.f1 S42.f2 l) := by unfold pleachref37_Wrong.f; rw [if_pos ⟨fun x hx => (hg x hx).2.1, hl⟩]
    rw [if_pos rfl, hw, Option.bind_some]
    by_cases c1 : M.wr S42.f0 S42.f1 S42.f2 l = 0
    · rw [if_pos c1]
      by_cases c2 : (q.length : Int) > 40
      · rw [decide_eq_true c2, hbad]
      rw [decide_eq_false c2, pleachlaw37_RefsPlays.j0, if_neg (by decide)]
      obtain ⟨R, hR, hk⟩ := play q (fun x hx => (hgq x hx).2.2.2.1) hlq q.length 0 l (by omega) c1
      refine sizes l q hlq (q.length + 102) (fun k hk' => ?_) q.length 0 (by omega) _ (by omega)
      have e0 : api_Ref_27.f l = some l := by unfold api_Ref_27.f; rw [if_pos (by omega)]
      have e1 : refs_Play.f k l q = some R := by
        unfold refs_Play.f
        rw [e0, Option.bind_some]
        exact (hk k (by omega)).1
      have e2 : pleachref37_Play.f k l q = some R := (hk k (by omega)).2
      rw [e1, Option.bind_some, e2, Option.bind_some, same R.1 (by omega) k (by omega), Option.bind_some, if_pos rfl, if_pos rfl, awake]; rfl
    · rw [if_neg c1, hbad]
end Go.Proofs.Ytkaglpjdeinbhaa.Pure
