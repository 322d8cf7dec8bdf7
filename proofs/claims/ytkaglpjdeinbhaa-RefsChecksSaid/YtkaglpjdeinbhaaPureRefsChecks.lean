/- The law RefsChecks: whether any refs may be is told as the document says, and which of two stands first. No further condition. -/
import Derived.Test.YtkaglpjdeinbhaaERefsChecksx7
namespace Go.Proofs.Ytkaglpjdeinbhaa.Pure
open Go.RowKit Go.Proofs.Ytkaglpjdeinbhaa.ERefsChecks Go.Proofs.YtkaglpjdeinbhaaW.PrintWords Go.Proofs.YtkaglpjdeinbhaaW.PrintLast Go.Proofs.YtkaglpjdeinbhaaW.PrintMore
theorem few_loop (l : List S42) (hl : l.length ≤ 9223372036854775807) (d : Nat) : ∀ (i : Nat) (n : Int), i + d = 71 → 0 ≤ n → n ≤ 10000 * (i : Int) → ∃ b, (b = true → l.length ≤ 70) ∧ ∀ k, d + 1 ≤ k → pleachref37_Few.l0 k l n (i : Int) = some b := by
  have key : ∀ (i : Nat) (n : Int), i + d = 71 → ∀ k, (¬ (i : Int) < (l.length : Int) ∨ ¬ (i : Int) ≤ 70) → pleachref37_Few.l0 (k + 1) l n (i : Int) = some (decide ((l.length : Int) ≤ 70) && decide (n ≤ 5000)) := by
    intro i n hi k hc
    have fin : (if (l.length : Int) ≤ 70 then (some (decide (n ≤ 5000))) else (some false)) = some (decide ((l.length : Int) ≤ 70) && decide (n ≤ 5000)) := by
      by_cases h : (l.length : Int) ≤ 70
      · rw [if_pos h, decide_eq_true h, Bool.true_and]
      · rw [if_neg h, decide_eq_false h, Bool.false_and]
    rw [pleachref37_Few.l0]
    by_cases h1 : (i : Int) < (l.length : Int)
    · rw [if_pos h1, if_neg (hc.resolve_left (fun z => z h1)), fin]
    · rw [if_neg h1, fin]
  have stop : ∀ (i : Nat) (n : Int), i + d = 71 → (¬ (i : Int) < (l.length : Int) ∨ ¬ (i : Int) ≤ 70) → ∃ b, (b = true → l.length ≤ 70) ∧ ∀ k, d + 1 ≤ k → pleachref37_Few.l0 k l n (i : Int) = some b := by
    intro i n hi hc
    refine ⟨decide ((l.length : Int) ≤ 70) && decide (n ≤ 5000), fun h => ?_, fun k hk => ?_⟩
    · have := of_decide_eq_true ((Bool.and_eq_true _ _).mp h).1
      omega
    · obtain ⟨m, rfl⟩ : ∃ m, k = m + 1 := ⟨k - 1, by omega⟩
      exact key i n hi m hc
  induction d with
  | zero => intro i n hi _ _; exact stop i n hi (.inr (by omega))
  | succ d ih =>
    intro i n hi h0 h1
    by_cases hc : (i : Int) < (l.length : Int)
    · have b1 : (0 : Int) ≤ mn ((rd_T42 l (i : Int)).f1.size : Int) 5000 ∧ mn ((rd_T42 l (i : Int)).f1.size : Int) 5000 ≤ 5000 := by unfold mn; split <;> omega
      have b2 : (0 : Int) ≤ mn ((rd_T42 l (i : Int)).f2.size : Int) 5000 ∧ mn ((rd_T42 l (i : Int)).f2.size : Int) 5000 ≤ 5000 := by unfold mn; split <;> omega
      obtain ⟨b, hb, hk⟩ := ih (fun i n hi k hc => by
        have fin : (if (l.length : Int) ≤ 70 then (some (decide (n ≤ 5000))) else (some false)) = some (decide ((l.length : Int) ≤ 70) && decide (n ≤ 5000)) := by
          by_cases h : (l.length : Int) ≤ 70
          · rw [if_pos h, decide_eq_true h, Bool.true_and]
          · rw [if_neg h, decide_eq_false h, Bool.false_and]
        rw [pleachref37_Few.l0]
        by_cases h1 : (i : Int) < (l.length : Int)
        · rw [if_pos h1, if_neg (hc.resolve_left (fun z => z h1)), fin]
        · rw [if_neg h1, fin]) (fun i n hi hc => by
        refine ⟨decide ((l.length : Int) ≤ 70) && decide (n ≤ 5000), fun h => ?_, fun k hk => ?_⟩
        · have := of_decide_eq_true ((Bool.and_eq_true _ _).mp h).1
          omega
        · obtain ⟨m, rfl⟩ : ∃ m, k = m + 1 := ⟨k - 1, by omega⟩
          have fin : (if (l.length : Int) ≤ 70 then (some (decide (n ≤ 5000))) else (some false)) = some (decide ((l.length : Int) ≤ 70) && decide (n ≤ 5000)) := by
            by_cases h : (l.length : Int) ≤ 70
            · rw [if_pos h, decide_eq_true h, Bool.true_and]
            · rw [if_neg h, decide_eq_false h, Bool.false_and]
          rw [pleachref37_Few.l0]
          by_cases h1 : (i : Int) < (l.length : Int)
          · rw [if_pos h1, if_neg (hc.resolve_left (fun z => z h1)), fin]
          · rw [if_neg h1, fin]) (i + 1) (n + mn ((rd_T42 l (i : Int)).f1.size : Int) 5000 + mn ((rd_T42 l (i : Int)).f2.size : Int) 5000) (by omega) (by omega) (by omega)
      refine ⟨b, hb, fun k hk' => ?_⟩
      obtain ⟨m, rfl⟩ : ∃ m, k = m + 1 := ⟨k - 1, by omega⟩
      rw [pleachref37_Few.l0, if_pos hc, if_pos (by omega), if_pos (by omega), M.wrap64_id (i := n + _) (by omega) (by omega), M.wrap64_id (by omega) (by omega), M.wrap64_id (by omega) (by omega), show (i : Int) + 1 = ((i + 1 : Nat) : Int) by omega, hk m (by omega)]
    · exact stop i n hi (.inl hc)
theorem few (l : List S42) (hl : l.length ≤ 9223372036854775807) : ∃ b, (b = true → l.length ≤ 70) ∧ ∀ k, 72 ≤ k → pleachref37_Few.f k l = some b := few_loop l hl 71 0 0 rfl (by omega) (by omega)
theorem nil_ : (⟨#[]⟩ : ByteArray).toList = [] := by rw [M.toList_bs]; rfl
theorem one_ (c : UInt8) : (⟨#[c]⟩ : ByteArray).toList ≠ [] := by rw [M.toList_bs]; exact fun h => by cases h
theorem awake (k : Nat) : pleachlaw37_awake.f (k + 6) = some true := by
  have m : refs_may.f 1 ⟨#[97]⟩ = some true := by
    unfold refs_may.f
    rw [if_pos (by decide)]
    exact congrArg some (decide_eq_true ⟨.inl rfl, rfl⟩)
  have f1 : refs_find.f [] 1 ⟨#[97]⟩ = some (0, false) := by simp [refs_find.f, refs_find.p, refs_find.met]
  have f2 : refs_find.f [(⟨1, ⟨#[97]⟩, ⟨#[120]⟩⟩ : S42)] 1 ⟨#[97]⟩ = some (0, true) := by
    have : M.rcmp 1 ⟨#[97]⟩ 1 ⟨#[97]⟩ = 0 := (M.rcmp_zero _ _ _ _).2 ⟨rfl, rfl⟩
    simp [refs_find.f, refs_find.p, refs_find.met, M.rless_irrefl, rd_T42, this]
  have b0 : ((⟨#[]⟩ : ByteArray).toList == ([] : List UInt8)) = true := by rw [nil_]; rfl
  have b1 : ((⟨#[120]⟩ : ByteArray).toList == ([] : List UInt8)) = false := beq_eq_false_iff_ne.2 (one_ _)
  have b2 : ((⟨#[121]⟩ : ByteArray).toList == ([] : List UInt8)) = false := beq_eq_false_iff_ne.2 (one_ _)
  have b3 : ((⟨#[]⟩ : ByteArray).toList != ([] : List UInt8)) = false := by rw [nil_]; rfl
  have s1 : refs_Set.f (k + 6) [] 1 ⟨#[97]⟩ ⟨#[]⟩ ⟨#[120]⟩ = some ([⟨1, ⟨#[97]⟩, ⟨#[120]⟩⟩], 0) := by
    unfold refs_Set.f
    rw [m, Option.bind_some, if_pos rfl, if_pos nil_, b1, refs_Set.j0, if_neg (by decide), f1, Option.bind_some, if_neg (by decide), refs_Set.j1, if_neg (by decide), if_neg (by decide), b3, refs_Set.j2, if_neg (by decide), if_neg (by decide), refs_Set.j3, if_neg (by decide), if_neg (by decide), if_neg (by decide), refs_Set.j4]
    simp [api_Ref_27.f, api_Ref_29.f]
  have s2 : refs_Set.f (k + 6) [⟨1, ⟨#[97]⟩, ⟨#[120]⟩⟩] 1 ⟨#[97]⟩ ⟨#[]⟩ ⟨#[121]⟩ = some ([], 10) := by
    unfold refs_Set.f
    rw [m, Option.bind_some, if_pos rfl, if_pos nil_, b2, refs_Set.j0, if_neg (by decide), f2, Option.bind_some, if_pos rfl, b0, refs_Set.j1, if_pos rfl]
  unfold pleachlaw37_awake.f
  rw [s1, Option.bind_some, s2]
  rfl
theorem cmp_want (k1 : Int) (s1 : ByteArray) (k2 : Int) (s2 : ByteArray) : M.rcmp k1 s1 k2 s2 = if M.rless k2 s2 k1 s1 then 1 else if M.rless k1 s1 k2 s2 then -1 else 0 := by
  rw [M.rcmp_eq]
  rcases M.rless_or k1 s1 k2 s2 with h | ⟨rfl, rfl⟩ | h
  · rw [if_pos h, if_neg (M.rless_asymm h), if_pos h]
  · rw [if_neg (M.rless_irrefl _ _), if_neg (M.rless_irrefl _ _), if_neg (M.rless_irrefl _ _), if_neg (M.rless_irrefl _ _)]
  · rw [if_neg (M.rless_asymm h), if_pos h, if_pos h]
theorem loop (l : List S42) (hl : l.length ≤ 70) (hs : ∀ x ∈ l, x.f1.size ≤ 9223372036854775807) (d : Nat) : ∀ i : Nat, 1 ≤ i → (i + d = l.length ∨ (d = 0 ∧ l.length ≤ i)) → ∀ k, 2 * d + 8 ≤ k → pleachlaw37_RefsChecks.l0 k l (i : Int) = some true := by
  induction d with
  | zero =>
    intro i h1 hi k hk
    obtain ⟨m, rfl⟩ : ∃ m, k = (m + 6) + 1 := ⟨k - 7, by omega⟩
    have e1 : refs_Check.f l = some (M.wr S42.f0 S42.f1 S42.f2 l) := by unfold refs_Check.f; rw [if_pos ⟨hs, by omega⟩]
    have e2 : pleachref37_Wrong.f l = some (M.wr S42.f0 S42.f1 S42.f2 l) := by unfold pleachref37_Wrong.f; rw [if_pos ⟨hs, by omega⟩]
    rw [pleachlaw37_RefsChecks.l0, if_neg (by omega), e1, Option.bind_some, e2, Option.bind_some, if_pos rfl, awake]; rfl
  | succ d ih =>
    intro i h1 hi k hk
    obtain ⟨m, rfl⟩ : ∃ m, k = m + 1 + 1 := ⟨k - 2, by omega⟩
    have hlt : i < l.length := by omega
    have hn : pleachlaw37_RefsChecks.l0 m l (wrap64 ((i : Int) + 1)) = some true := by
      rw [M.wrap64_id (by omega) (by omega), show (i : Int) + 1 = ((i + 1 : Nat) : Int) by omega]
      exact ih (i + 1) (by omega) (by omega) m (by omega)
    have g1 : (i : Int) < (l.length : Int) := by omega
    have g2 : wrap64 ((i : Int) - 1) = (i : Int) - 1 := M.wrap64_id (by omega) (by omega)
    have g3 : (0 : Int) ≤ (i : Int) - 1 := by omega
    have g4 : (i : Int) - 1 < (l.length : Int) := by omega
    have g5 : (0 : Int) ≤ (i : Int) := by omega
    have hj : ∀ q : Int, (if M.rless (rd_T42 l ((i : Int) - 1)).f0 (rd_T42 l ((i : Int) - 1)).f1 (rd_T42 l (i : Int)).f0 (rd_T42 l (i : Int)).f1 then (-1 : Int) else 0) = q → pleachlaw37_RefsChecks.j1 (m + 1) l (i : Int) q = some true := by
      intro q hq
      rw [pleachlaw37_RefsChecks.j1, if_pos g5, if_pos g1, g2, if_pos g3, if_pos g4]
      unfold pleachref37_Less.f refs_Compare.f
      simp only [Option.bind_some]
      rw [cmp_want, hq]
      by_cases c : M.rless (rd_T42 l (i : Int)).f0 (rd_T42 l (i : Int)).f1 (rd_T42 l ((i : Int) - 1)).f0 (rd_T42 l ((i : Int) - 1)).f1
      · rw [decide_eq_true c, if_pos rfl, if_pos c, if_pos rfl, hn]
      · rw [decide_eq_false c, if_neg (by decide), if_neg c, if_pos rfl, hn]
    rw [pleachlaw37_RefsChecks.l0, if_pos g1, g2, if_pos g3, if_pos g4, if_pos g5]
    unfold pleachref37_Less.f
    rw [Option.bind_some]
    by_cases c : M.rless (rd_T42 l ((i : Int) - 1)).f0 (rd_T42 l ((i : Int) - 1)).f1 (rd_T42 l (i : Int)).f0 (rd_T42 l (i : Int)).f1
    · rw [decide_eq_true c, if_pos rfl]
      exact hj _ (if_pos c)
    · rw [decide_eq_false c, if_neg (by decide)]
      exact hj _ (if_neg c)
theorem RefsChecks : pleachlaw37_RefsChecks.Pure := by
  rintro l ⟨hg, hl⟩
  obtain ⟨b, hb, hf⟩ := few l hl
  refine ⟨200, ?_⟩
  unfold pleachlaw37_RefsChecks.f
  rw [hf 200 (by omega), Option.bind_some]
  cases b with
  | false => rw [if_neg (by decide), awake]; rfl
  | true =>
    have h70 := hb rfl
    rw [if_pos rfl]
    refine loop l h70 (fun x hx => (hg x hx).2.1) (l.length - 1) 1 (by omega) ?_ 200 (by omega)
    omega
end Go.Proofs.Ytkaglpjdeinbhaa.Pure
