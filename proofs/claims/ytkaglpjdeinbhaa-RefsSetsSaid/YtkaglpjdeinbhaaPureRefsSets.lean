/- The law RefsSets: what a change of any ref makes of any refs is told as the document says. No further condition. -/
import Derived.Test.YtkaglpjdeinbhaaERefsSetsx9
namespace Go.Proofs.Ytkaglpjdeinbhaa.Pure
open Go.RowKit Go.Proofs.Ytkaglpjdeinbhaa.ERefsSets Go.Proofs.YtkaglpjdeinbhaaW.PrintWords Go.Proofs.YtkaglpjdeinbhaaW.PrintLast Go.Proofs.YtkaglpjdeinbhaaW.PrintMore
theorem few_loop (l : List S42) (hl : l.length ≤ 9223372036854775807) (d : Nat) : ∀ (i : Nat) (n : Int), i + d = 71 → 0 ≤ n → n ≤ 10000 * (i : Int) → ∃ b, (b = true → l.length ≤ 70) ∧ ∀ k, d + 1 ≤ k → pleachref37_Few.l0 k l n (i : Int) = some b := by
  have key : ∀ (i : Nat) (n : Int), i + d = 71 → ∀ k, (¬ (i : Int) < (l.length : Int) ∨ ¬ (i : Int) ≤ 70) → pleachref37_Few.l0 (k + 1) l n (i : Int) = some (decide ((l.length : Int) ≤ 70) && decide (n ≤ 5000)) := by
    intro i n hi k hc
    have fin : (if (l.length : Int) ≤ 70 then (some (decide (n ≤ 5000))) else (some false)) = some (decide ((l.length : Int) ≤ 70) && decide (n ≤ 5000)) := by
      by_cases h : (l.length : Int) ≤ 70
      · rw [if_pos h, decide_eq_true h, Bool.true_and]
      · rw [if_neg h, decide_eq_false h, Bool.false_and]
    rw [pleachref37_Few.l0]
    by_cases h1 : (i : Int) < (l.length : Int)
    · rw [if_pos h1, if_neg (hc.resolve_left (fun z => z h1)), fin]
    · rw [if_neg h1, fin]
  have stop : ∀ (i : Nat) (n : Int), i + d = 71 → (¬ (i : Int) < (l.length : Int) ∨ ¬ (i : Int) ≤ 70) → ∃ b, (b = true → l.length ≤ 70) ∧ ∀ k, d + 1 ≤ k → pleachref37_Few.l0 k l n (i : Int) = some b := by
    intro i n hi hc
    refine ⟨decide ((l.length : Int) ≤ 70) && decide (n ≤ 5000), fun h => ?_, fun k hk => ?_⟩
    · have := of_decide_eq_true ((Bool.and_eq_true _ _).mp h).1
      omega
    · obtain ⟨m, rfl⟩ : ∃ m, k = m + 1 := ⟨k - 1, by omega⟩
      exact key i n hi m hc
  induction d with
  | zero => intro i n hi _ _; exact stop i n hi (.inr (by omega))
  | succ d ih =>
    intro i n hi h0 h1
    by_cases hc : (i : Int) < (l.length : Int)
    · have b1 : (0 : Int) ≤ mn ((rd_T42 l (i : Int)).f1.size : Int) 5000 ∧ mn ((rd_T42 l (i : Int)).f1.size : Int) 5000 ≤ 5000 := by unfold mn; split <;> omega
      have b2 : (0 : Int) ≤ mn ((rd_T42 l (i : Int)).f2.size : Int) 5000 ∧ mn ((rd_T42 l (i : Int)).f2.size : Int) 5000 ≤ 5000 := by unfold mn; split <;> omega
      obtain ⟨b, hb, hk⟩ := ih (fun i n hi k hc => by
        have fin : (if (l.length : Int) ≤ 70 then (some (decide (n ≤ 5000))) else (some false)) = some (decide ((l.length : Int) ≤ 70) && decide (n ≤ 5000)) := by
          by_cases h : (l.length : Int) ≤ 70
          · rw [if_pos h, decide_eq_true h, Bool.true_and]
          · rw [if_neg h, decide_eq_false h, Bool.false_and]
        rw [pleachref37_Few.l0]
        by_cases h1 : (i : Int) < (l.length : Int)
        · rw [if_pos h1, if_neg (hc.resolve_left (fun z => z h1)), fin]
        · rw [if_neg h1, fin]) (fun i n hi hc => by
        refine ⟨decide ((l.length : Int) ≤ 70) && decide (n ≤ 5000), fun h => ?_, fun k hk => ?_⟩
        · have := of_decide_eq_true ((Bool.and_eq_true _ _).mp h).1
          omega
        · obtain ⟨m, rfl⟩ : ∃ m, k = m + 1 := ⟨k - 1, by omega⟩
          have fin : (if (l.length : Int) ≤ 70 then (some (decide (n ≤ 5000))) else (some false)) = some (decide ((l.length : Int) ≤ 70) && decide (n ≤ 5000)) := by
            by_cases h : (l.length : Int) ≤ 70
            · rw [if_pos h, decide_eq_true h, Bool.true_and]
            · rw [if_neg h, decide_eq_false h, Bool.false_and]
          rw [pleachref37_Few.l0]
          by_cases h1 : (i : Int) < (l.length : Int)
          · rw [if_pos h1, if_neg (hc.resolve_left (fun z => z h1)), fin]
          · rw [if_neg h1, fin]) (i + 1) (n + mn ((rd_T42 l (i : Int)).f1.size : Int) 5000 + mn ((rd_T42 l (i : Int)).f2.size : Int) 5000) (by omega) (by omega) (by omega)
      refine ⟨b, hb, fun k hk' => ?_⟩
      obtain ⟨m, rfl⟩ : ∃ m, k = m + 1 := ⟨k - 1, by omega⟩
      rw [pleachref37_Few.l0, if_pos hc, if_pos (by omega), if_pos (by omega), M.wrap64_id (i := n + _) (by omega) (by omega), M.wrap64_id (by omega) (by omega), M.wrap64_id (by omega) (by omega), show (i : Int) + 1 = ((i + 1 : Nat) : Int) by omega, hk m (by omega)]
    · exact stop i n hi (.inl hc)
theorem few (l : List S42) (hl : l.length ≤ 9223372036854775807) : ∃ b, (b = true → l.length ≤ 70) ∧ ∀ k, 72 ≤ k → pleachref37_Few.f k l = some b := few_loop l hl 71 0 0 rfl (by omega) (by omega)
theorem nil_ : (⟨#[]⟩ : ByteArray).toList = [] := by rw [M.toList_bs]; rfl
theorem one_ (c : UInt8) : (⟨#[c]⟩ : ByteArray).toList ≠ [] := by rw [M.toList_bs]; exact fun h => by cases h
theorem name_size {s : ByteArray} (h : M.isName s = true) : s.size ≤ 12 := by
  unfold M.isName at h
  exact (of_decide_eq_true ((Bool.and_eq_true _ _).mp h).2).2
theorem rset_wr (l : List S42) (k : Int) (s old now : ByteArray) (hw : M.wr S42.f0 S42.f1 S42.f2 l = 0) (h : (M.rset S42.f0 S42.f1 S42.f2 S42.mk l k s old now).2 = 0) : M.wr S42.f0 S42.f1 S42.f2 (M.rset S42.f0 S42.f1 S42.f2 S42.mk l k s old now).1 = 0 := by
  obtain ⟨h64, hok, hp⟩ := (M.wr_zero S42.f0 S42.f1 S42.f2 l).1 hw
  obtain ⟨A, B, hA, hB, hcase⟩ := refs_Set.found l k s hw
  by_cases c1 : ¬ ((k = 1 ∨ k = 2) ∧ M.isName s = true) ∨ (old = ⟨#[]⟩ ∧ now = ⟨#[]⟩)
  · unfold M.rset at h; rw [if_pos c1] at h; cases h
  by_cases c2 : M.rget S42.f0 S42.f1 S42.f2 l k s = old
  · by_cases c3 : old = ⟨#[]⟩ ∧ 64 ≤ l.length
    · unfold M.rset at h; rw [if_neg c1, if_pos c2, if_pos c3] at h; cases h
    have e : M.rset S42.f0 S42.f1 S42.f2 S42.mk l k s old now = (A ++ (if now = ⟨#[]⟩ then [] else [S42.mk k s now]) ++ B, 0) := by
      unfold M.rset; rw [if_neg c1, if_pos c2, if_neg c3, ← hA, ← hB]
    rw [e, M.wr_zero]
    have d1 : (k = 1 ∨ k = 2) ∧ M.isName s = true := Classical.byContradiction (fun z => c1 (.inl z))
    have sA : ∀ x ∈ A, x ∈ l ∧ M.rless x.f0 x.f1 k s := fun x hx => by rw [hA] at hx; exact ⟨(List.mem_filter.1 hx).1, of_decide_eq_true (List.mem_filter.1 hx).2⟩
    have sB : ∀ x ∈ B, x ∈ l ∧ M.rless k s x.f0 x.f1 := fun x hx => by rw [hB] at hx; exact ⟨(List.mem_filter.1 hx).1, of_decide_eq_true (List.mem_filter.1 hx).2⟩
    have sM : ∀ x ∈ (if now = ⟨#[]⟩ then [] else [S42.mk k s now]), x.f0 = k ∧ x.f1 = s ∧ M.rok S42.f0 S42.f1 S42.f2 x := by
      intro x hx
      by_cases c : now = ⟨#[]⟩
      · rw [if_pos c] at hx; cases hx
      · rw [if_neg c] at hx
        rw [List.mem_singleton.1 hx]
        exact ⟨rfl, rfl, d1.1, d1.2, fun z => c (M.text_none.1 z)⟩
    have lM : (if now = ⟨#[]⟩ then [] else [S42.mk k s now]).length ≤ 1 := by split <;> simp
    have pM : List.Pairwise (fun x y : S42 => M.rless x.f0 x.f1 y.f0 y.f1) (if now = ⟨#[]⟩ then [] else [S42.mk k s now]) := by split <;> simp
    generalize (if now = ⟨#[]⟩ then [] else [S42.mk k s now]) = mm at *
    refine ⟨?_, ?_, ?_⟩
    · show (A ++ mm ++ B).length ≤ 64
      rw [List.length_append, List.length_append]
      rcases hcase with ⟨el, eg, _⟩ | ⟨x, el, _⟩
      · have hl : l.length = A.length + B.length := by rw [← List.length_append, ← el]
        have : ¬ 64 ≤ l.length := fun z => c3 ⟨by rw [← c2, eg], z⟩
        omega
      · have hl : l.length = A.length + (B.length + 1) := by rw [← List.length_cons, ← List.length_append, ← el]
        omega
    · intro x hx
      rcases List.mem_append.1 hx with hx | hx
      · rcases List.mem_append.1 hx with hx | hx
        · exact hok x (sA x hx).1
        · exact (sM x hx).2.2
      · exact hok x (sB x hx).1
    · show List.Pairwise _ (A ++ mm ++ B)
      rw [List.pairwise_append, List.pairwise_append]
      refine ⟨⟨by rw [hA]; exact hp.filter _, pM, fun a ha b hb => ?_⟩, by rw [hB]; exact hp.filter _, fun a ha b hb => ?_⟩
      · obtain ⟨q1, q2, _⟩ := sM b hb
        have := (sA a ha).2
        rw [q1, q2]; exact this
      · rcases List.mem_append.1 ha with ha | ha
        · exact M.rless_trans (sA a ha).2 (sB b hb).2
        · obtain ⟨q1, q2, _⟩ := sM a ha
          have := (sB b hb).2
          rw [q1, q2]; exact this
  · exfalso
    unfold M.rset at h
    rw [if_neg c1, if_neg c2] at h
    split at h
    · cases h
    · split at h <;> cases h
theorem same_loop (a : List S42) (ha : a.length ≤ 1000000) (d : Nat) : ∀ i, i + d = a.length → ∀ k, d + 1 ≤ k → pleachref37_Same.l0 k a a (a.length : Int) (i : Int) = some true := by
  induction d with
  | zero =>
    intro i hi k hk
    obtain ⟨m, rfl⟩ : ∃ m, k = m + 1 := ⟨k - 1, by omega⟩
    rw [pleachref37_Same.l0, if_neg (by omega)]
  | succ d ih =>
    intro i hi k hk
    obtain ⟨m, rfl⟩ : ∃ m, k = m + 1 := ⟨k - 1, by omega⟩
    rw [pleachref37_Same.l0, if_pos (by omega), if_pos (by omega), if_pos (by omega), if_pos (by omega), if_neg (by simp), M.wrap64_id (by omega) (by omega), show (i : Int) + 1 = ((i + 1 : Nat) : Int) by omega, ih (i + 1) (by omega) m (by omega)]
theorem same (a : List S42) (ha : a.length ≤ 1000000) (k : Nat) (hk : a.length + 1 ≤ k) : pleachref37_Same.f k a a = some true := by
  unfold pleachref37_Same.f
  rw [if_pos rfl]
  exact same_loop a ha a.length 0 (by omega) k hk
theorem awake : pleachlaw37_awake.f = some true := by
  have w0 : M.wr S42.f0 S42.f1 S42.f2 [] = 0 := rfl
  have hx : (⟨#[120]⟩ : ByteArray) ≠ ⟨#[]⟩ := fun z => one_ 120 (M.text_none.2 z)
  have hy : (⟨#[121]⟩ : ByteArray) ≠ ⟨#[]⟩ := fun z => one_ 121 (M.text_none.2 z)
  have n1 : ((1 : Int) = 1 ∨ (1 : Int) = 2) ∧ M.isName ⟨#[97]⟩ = true := ⟨.inl rfl, rfl⟩
  have r1 : M.rset S42.f0 S42.f1 S42.f2 S42.mk [] 1 ⟨#[97]⟩ ⟨#[]⟩ ⟨#[120]⟩ = ([⟨1, ⟨#[97]⟩, ⟨#[120]⟩⟩], 0) := by
    have c0 : ¬ (¬ (((1 : Int) = 1 ∨ (1 : Int) = 2) ∧ M.isName ⟨#[97]⟩ = true) ∨ ((⟨#[]⟩ : ByteArray) = ⟨#[]⟩ ∧ (⟨#[120]⟩ : ByteArray) = ⟨#[]⟩)) := fun z => z.elim (fun z => z n1) (fun z => hx z.2)
    have c1 : M.rget S42.f0 S42.f1 S42.f2 [] 1 ⟨#[97]⟩ = ⟨#[]⟩ := rfl
    have c2 : ¬ ((⟨#[]⟩ : ByteArray) = ⟨#[]⟩ ∧ 64 ≤ ([] : List S42).length) := fun z => by have := z.2; simp at this
    unfold M.rset
    rw [if_neg c0, if_pos c1, if_neg c2, if_neg hx]; rfl
  have w1 : M.wr S42.f0 S42.f1 S42.f2 [⟨1, ⟨#[97]⟩, ⟨#[120]⟩⟩] = 0 := by
    have := rset_wr [] 1 ⟨#[97]⟩ ⟨#[]⟩ ⟨#[120]⟩ w0 (by rw [r1])
    rw [r1] at this; exact this
  have r2 : M.rset S42.f0 S42.f1 S42.f2 S42.mk [⟨1, ⟨#[97]⟩, ⟨#[120]⟩⟩] 1 ⟨#[97]⟩ ⟨#[]⟩ ⟨#[121]⟩ = ([], 10) := by
    have c0 : ¬ (¬ (((1 : Int) = 1 ∨ (1 : Int) = 2) ∧ M.isName ⟨#[97]⟩ = true) ∨ ((⟨#[]⟩ : ByteArray) = ⟨#[]⟩ ∧ (⟨#[121]⟩ : ByteArray) = ⟨#[]⟩)) := fun z => z.elim (fun z => z n1) (fun z => hy z.2)
    have c1 : M.rget S42.f0 S42.f1 S42.f2 [⟨1, ⟨#[97]⟩, ⟨#[120]⟩⟩] 1 ⟨#[97]⟩ = ⟨#[120]⟩ := by
      unfold M.rget
      rw [List.find?_cons_of_pos (show M.req S42.f0 S42.f1 1 ⟨#[97]⟩ ⟨1, ⟨#[97]⟩, ⟨#[120]⟩⟩ = true from decide_eq_true ⟨rfl, rfl⟩)]; rfl
    have c2 : ¬ M.rget S42.f0 S42.f1 S42.f2 [⟨1, ⟨#[97]⟩, ⟨#[120]⟩⟩] 1 ⟨#[97]⟩ = ⟨#[]⟩ := by rw [c1]; exact hx
    unfold M.rset
    rw [if_neg c0, if_neg c2, if_pos rfl]
  have s1 : refs_Set.f [] 1 ⟨#[97]⟩ ⟨#[]⟩ ⟨#[120]⟩ = some ([⟨1, ⟨#[97]⟩, ⟨#[120]⟩⟩], 0) := by
    unfold refs_Set.f; rw [if_pos ⟨w0, by decide⟩, r1]
  have s2 : refs_Set.f [⟨1, ⟨#[97]⟩, ⟨#[120]⟩⟩] 1 ⟨#[97]⟩ ⟨#[]⟩ ⟨#[121]⟩ = some ([], 10) := by
    unfold refs_Set.f; rw [if_pos ⟨w1, by decide⟩, r2]
  unfold pleachlaw37_awake.f
  rw [s1, Option.bind_some, s2]
  rfl
theorem RefsSets : pleachlaw37_RefsSets.Pure := by
  rintro l a1 s old now ⟨hg, hl⟩ _ hs _ _
  obtain ⟨b, hb, hf⟩ := few l hl
  obtain ⟨R, hR⟩ : ∃ R, R = M.rset S42.f0 S42.f1 S42.f2 S42.mk l a1 s old now := ⟨_, rfl⟩
  obtain ⟨m, hm⟩ : ∃ m, m = 200 + l.length + R.1.length := ⟨_, rfl⟩
  refine ⟨m + 1, ?_⟩
  have hbad : pleachlaw37_RefsSets.j0 (m + 1) l a1 s old now true = some true := by rw [pleachlaw37_RefsSets.j0, if_pos rfl, awake]; rfl
  unfold pleachlaw37_RefsSets.f
  rw [hf (m + 1) (by omega), Option.bind_some]
  cases b with
  | false => rw [if_neg (by decide), hbad]
  | true =>
    have h70 := hb rfl
    have hw : pleachref37_Wrong.f l = some (M.wr S42.f0 S42.f1 S42.f2 l) := by unfold pleachref37_Wrong.f; rw [if_pos ⟨fun x hx => (hg x hx).2.1, hl⟩]
    rw [if_pos rfl, hw, Option.bind_some]
    by_cases c1 : M.wr S42.f0 S42.f1 S42.f2 l = 0
    · rw [if_pos c1]
      have h64 := ((M.wr_zero S42.f0 S42.f1 S42.f2 l).1 c1).1
      have hRl : R.1.length ≤ 100 := by
        by_cases c : R.2 = 0
        · have := rset_wr l a1 s old now c1 (by rw [← hR]; exact c)
          rw [← hR] at this
          have := ((M.wr_zero S42.f0 S42.f1 S42.f2 R.1).1 this).1
          omega
        · have : R.1 = [] := by
            rw [hR] at c ⊢
            unfold M.rset at c ⊢
            split
            · rfl
            · split
              · split
                · rfl
                · rename_i z1 z2 z3
                  rw [if_neg z1, if_pos z2, if_neg z3] at c
                  exact absurd rfl c
              · split
                · rfl
                · split <;> rfl
          rw [this]; simp
      have hgood : pleachlaw37_RefsSets.j0 (m + 1) l a1 s old now false = some true := by
        have e1 : refs_Set.f l a1 s old now = some R := by unfold refs_Set.f; rw [if_pos ⟨c1, by omega⟩, hR]
        have e2 : pleachref37_Set.f l a1 s old now = some R := by unfold pleachref37_Set.f; rw [if_pos ⟨by omega, by omega⟩, hR]
        have e3 : refs_Get.f l a1 s = some (M.rget S42.f0 S42.f1 S42.f2 l a1 s) := by unfold refs_Get.f; rw [if_pos c1]
        have e4 : pleachref37_Get.f l a1 s = some (M.rget S42.f0 S42.f1 S42.f2 l a1 s) := by unfold pleachref37_Get.f; rw [if_pos hl]
        rw [pleachlaw37_RefsSets.j0, if_neg (by decide), Option.bind_some, List.nil_append, if_pos (by rw [List.length_nil]; omega), e1, Option.bind_some, e2, Option.bind_some, same R.1 (by omega) m (by omega), Option.bind_some, if_pos rfl, if_pos rfl, e3, Option.bind_some, e4, Option.bind_some, if_pos rfl, same l (by omega) m (by omega), Option.bind_some, if_pos rfl]
        by_cases c2 : R.2 = 0
        · have hr := rset_wr l a1 s old now c1 (by rw [← hR]; exact c2)
          rw [← hR] at hr
          have e5 : pleachref37_Wrong.f R.1 = some 0 := by
            unfold pleachref37_Wrong.f
            rw [if_pos ⟨fun x hx => by have := name_size (((M.wr_zero S42.f0 S42.f1 S42.f2 R.1).1 hr).2.1 x hx).2.1; omega, by omega⟩, hr]
          rw [if_pos c2, e5, Option.bind_some, if_pos rfl, awake]; rfl
        · rw [if_neg c2, awake]; rfl
      by_cases c2 : (s.size : Int) > 100
      · rw [if_pos c2, hbad]
      rw [if_neg c2]
      by_cases c3 : (old.size : Int) > 200
      · rw [if_pos c3, hbad]
      rw [if_neg c3]
      by_cases c4 : (now.size : Int) > 200
      · rw [decide_eq_true c4, hbad]
      · rw [decide_eq_false c4, hgood]
    · rw [if_neg c1, hbad]
end Go.Proofs.Ytkaglpjdeinbhaa.Pure
