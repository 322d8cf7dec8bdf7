/- slices.Compact over a row of texts of the call's own: the shelf's contract, and what it leaves of texts that are sorted. -/
import Derived.Test.YtkaglpjdeinbhaaCRefsRecordsMSort
import Derived.Shelf.Slices.CompactS
namespace Go.Proofs.Ytkaglpjdeinbhaa.M
open Go.RowKit Go.Shelf Go.Sort Go.Proofs Go.Proofs.YtkaglpjdeinbhaaW.PrintWords
variable {P : Program} {ρ : Ren}

def compB (l : List ByteArray) : List ByteArray := (Lib.compact (l.map fun x => x.data.toList)).map fun y => (⟨y.toArray⟩ : ByteArray)
theorem comp_any (L : Lays.n194 P ρ) (B : Nat) (v : Value) (xs : List ByteArray) (w : World) (hv : w.ownsRow B (ρ.t 9) 1 v xs.length (strs xs)) :
    Calls P (ρ.f 194) #[v] w fun e w' => ∃ v', e = .returned v' ∧ w'.ownsRow B (ρ.t 9) 1 v' (compB xs).length (strs (compB xs)) ∧ Below B w w' := by
  rcases hv.2 with ⟨rfl, h0⟩ | ⟨g, cap, cur, rfl, hg, hh, hn, hcm, hcs, ht⟩
  · obtain rfl : xs = [] := List.eq_nil_of_length_eq_zero h0
    refine (Any.slices_Compact_string_empty L none 0 w).mono ?_
    rintro e w' ⟨rfl, rfl⟩
    exact ⟨_, rfl, own_nil _ _ _ _, Below.refl _ _⟩
  · rw [Nat.mul_one] at hcs ht
    have hz : (xs.map fun x => x.data.toList).length = xs.length := List.length_map _
    have he : strs xs = (xs.map fun x => x.data.toList).map encStr := by
      unfold strs
      rw [List.map_map]
      apply List.map_congr_left
      intro x _
      simp [encStr]
    have hH := holds_of_block (ss := xs.map fun x => x.data.toList) hh (by rw [hz, ht, he])
    have hD := Any.slices_Compact_string L g 0 cap (xs.map fun x => x.data.toList) w hH (by rw [hz]; unfold maxLen at hcm; omega) (by rw [hz]; exact hn)
    rw [hz] at hD
    refine hD.mono ?_
    rintro e w' ⟨rfl, q, rfl⟩
    have hle : (Lib.compact (xs.map fun x => x.data.toList)).length ≤ (xs.map fun x => x.data.toList).length := by
      unfold Lib.compact Lib.compactUpTo
      rw [List.length_map]
      exact Nat.le_trans (List.length_filter_le _ _) (by simp)
    rw [hz] at hle
    have hcl : (compB xs).length = (Lib.compact (xs.map fun x => x.data.toList)).length := by unfold compB; rw [List.length_map]
    have hcs2 : strs (compB xs) = (Lib.compact (xs.map fun x => x.data.toList)).map encStr := by
      unfold strs compB
      rw [List.map_map]
      apply List.map_congr_left
      intro x _
      simp [encStr]
    rw [hcl, hcs2]
    generalize Lib.compact (xs.map fun x => x.data.toList) = zs at hle ⊢
    generalize hts : zs ++ List.replicate (xs.length - zs.length) [] = ts
    have htl : ts.length = (xs.map fun x => x.data.toList).length := by
      rw [← hts, hz]; simp; omega
    have ho := ownsRow_sorted (n := q) (os := #[]) (w := w) (ss := xs.map fun x => x.data.toList) htl hg hh (by rw [hz]; exact hn) hcm (by rw [Nat.mul_one]; exact hcs)
    rw [hz] at ho
    have hb := grownBy_sorted (w := w) (g := g) (n := q) (os := #[]) ts.toArray
    have hgr : ∀ W : World, grow W #[] = W := by intro W; simp [grow]
    rw [hgr] at ho hb
    refine ⟨_, rfl, ?_, (Below.refl B w).grown hb (by have := (Array.getElem?_eq_some_iff.1 hh).1; omega) (fun k hk => by cases hk; exact hg)⟩
    have ho2 := own_take (m := zs.length) ho hle
    have e2 : List.take (zs.length * 1) (ts.map encStr) = zs.map encStr := by
      rw [← hts, Nat.mul_one, List.map_append, List.take_left' (by simp)]
    rw [e2] at ho2
    exact ho2
section
variable {d : Array (List UInt8)}
/-- The first m places, compacted: their members, rising; and the last one is the last place's. -/
theorem compUp (d : Array (List UInt8)) (hs : ∀ i j, i < j → j < d.size → Op.bytesLess d[j]! d[i]! = false) (m : Nat) (hm : m ≤ d.size) :
    (∀ x, x ∈ Lib.compactUpTo d m ↔ ∃ i, i < m ∧ d[i]! = x) ∧ (Lib.compactUpTo d m).Pairwise (fun a b => Op.bytesLess a b = true) := by
  induction m with
  | zero => exact ⟨fun x => by simp [Lib.compactUpTo], by simp [Lib.compactUpTo]⟩
  | succ m ih =>
    obtain ⟨h1, h2⟩ := ih (by omega)
    rw [Lib.compactUpTo_succ]
    by_cases hk : Lib.keeps d m = true
    · rw [if_pos hk]
      refine ⟨fun x => ?_, ?_⟩
      · rw [List.mem_append, h1, List.mem_singleton]
        constructor
        · rintro (⟨i, hi, rfl⟩ | rfl)
          · exact ⟨i, by omega, rfl⟩
          · exact ⟨m, by omega, rfl⟩
        · rintro ⟨i, hi, rfl⟩
          by_cases h : i = m
          · subst h; exact .inr rfl
          · exact .inl ⟨i, by omega, rfl⟩
      · rw [List.pairwise_append]
        refine ⟨h2, by simp, fun a ha b hb => ?_⟩
        obtain ⟨i, hi, rfl⟩ := (h1 a).1 ha
        rw [List.mem_singleton.1 hb]
        have hm0 : m ≠ 0 := by omega
        have hne : d[m]! ≠ d[m - 1]! := by
          intro e
          unfold Lib.keeps at hk
          simp [hm0, e] at hk
        have hle := hs (m - 1) m (by omega) (by omega)
        have hlt : Op.bytesLess d[m - 1]! d[m]! = true := by
          have := less_or d[m - 1]! d[m]!
          rw [hle, Bool.not_false, Bool.or_eq_true] at this
          exact this.resolve_right (fun z => hne (by simpa using (beq_iff_eq.1 z).symm))
        by_cases h : i = m - 1
        · subst h; exact hlt
        · have hle2 := hs i (m - 1) (by omega) (by omega)
          have h3 := less_or d[i]! d[m - 1]!
          rw [hle2, Bool.not_false, Bool.or_eq_true] at h3
          rcases h3 with h3 | h3
          · exact less_trans _ _ _ h3 hlt
          · rw [beq_iff_eq.1 h3]; exact hlt
    · rw [if_neg hk, List.append_nil]
      refine ⟨fun x => ?_, h2⟩
      rw [h1]
      constructor
      · rintro ⟨i, hi, rfl⟩; exact ⟨i, by omega, rfl⟩
      · rintro ⟨i, hi, rfl⟩
        by_cases h : i = m
        · subst h
          have hm0 : i ≠ 0 := by
            rintro rfl
            exact hk (Lib.keeps_lt_one d 0 (by omega))
          refine ⟨i - 1, by omega, ?_⟩
          unfold Lib.keeps at hk
          simp [hm0] at hk
          exact hk.symm
        · exact ⟨i, by omega, rfl⟩
end
end Go.Proofs.Ytkaglpjdeinbhaa.M
