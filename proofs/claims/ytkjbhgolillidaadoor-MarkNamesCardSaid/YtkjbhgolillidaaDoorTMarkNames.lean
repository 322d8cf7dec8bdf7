/- The law MarkNames: what any text of at most 3,000 bytes needs, or that it is no object, as the document says. No further condition. -/
-- Laid by this session's own program (wip/tools/fold.py): this session's texts, cut to what the claim names and put together; Lean checks it.
import Derived.Test.YtkjbhgolillidaaDoorUMarkNames1
import Derived.Test.YtkjbhgolillidaaDoorVMarkNames17
import Derived.Test.YtkjbhgolillidaaDoorXMarkNames1
import Derived.ChangeArms
import Derived.Deep.Slices
import Derived.WideShapes
import Derived.OpenShut
import Derived.Test.YtkjbhgolillidaaDoorRows
import Derived.WalkKit
import Derived.ProofKit
import Derived.ShutString
import Derived.ChangeOld
import Derived.Below
import Derived.SizedLaws
import Derived.Test.YtkjbhgolillidaaDoorTie
import Derived.Test.YtkjbhgolillidaaDoorCards
import Derived.LaidLaws
import Derived.LaidMore
import Derived.Lib.LaidTab
import Derived.Stop.Joined
import Derived.SevenTiedAt
namespace Go.Proofs.YtkjbhgolillidaaDoor.M
open Go.RowKit Go.ChangeShapes Go.WideShapes Go.Proofs.YtkjbhgolillidaaDoorW.PrintWords Go.Proofs.YtkjbhgolillidaaDoorW.PrintMore
end Go.Proofs.YtkjbhgolillidaaDoor.M
namespace Go.Proofs.YtkjbhgolillidaaDoor.Pure
open Go.RowKit Go.Proofs.YtkjbhgolillidaaDoor.EMarkNames Go.Proofs.YtkjbhgolillidaaDoorW.PrintWords Go.Proofs.YtkjbhgolillidaaDoorW.PrintLast Go.Proofs.YtkjbhgolillidaaDoorW.PrintMore
theorem quad_st_ok (s : ByteArray) : ∀ k : Nat, 1 + 32 * k ≤ s.size → quad_Take.st s k = (((1 + 32 * k : Nat) : Int), 0)
  | 0, _ => rfl
  | k + 1, h => by
    rw [quad_Take.st, quad_st_ok s k (by omega)]
    unfold M.xfix M.sfix
    rw [if_pos rfl, if_neg (by simp only; omega)]
    simp only [Prod.mk.injEq, and_true]
    omega
theorem quad_tx_ok (s : ByteArray) (k : Nat) (h : 1 + 32 * (k + 1) ≤ s.size) : quad_Take.tx s k = s.extract (1 + 32 * k) (33 + 32 * k) := by
  unfold quad_Take.tx
  rw [quad_st_ok s k (by omega)]
  unfold M.xfix M.sfix
  rw [if_pos rfl, if_neg (by simp only; omega)]
  simp only [Int.toNat_natCast]
  congr 1
  omega
theorem quad_st_bad (s : ByteArray) (h1 : 1 ≤ s.size) : ∀ k : Nat, s.size < 1 + 32 * k → (quad_Take.st s k).2 = 3
  | 0, h => by omega
  | k + 1, h => by
    rw [quad_Take.st]
    by_cases h2 : s.size < 1 + 32 * k
    · have := quad_st_bad s h1 k h2
      unfold M.xfix
      rw [this, if_neg (by decide)]
    · rw [quad_st_ok s k (by omega)]
      unfold M.xfix M.sfix
      rw [if_pos rfl, if_pos (by right; simp only; omega)]
theorem quad_res (s : ByteArray) (h1 : 1 ≤ s.size) : quad_Take.res s = if s.size = 129 then (s.extract 1 33, s.extract 33 65, s.extract 65 97, s.extract 97 s.size, 0) else (⟨#[]⟩, ⟨#[]⟩, ⟨#[]⟩, ⟨#[]⟩, 3) := by
  unfold quad_Take.res
  by_cases h : s.size = 129
  · have e1 : M.xend s (quad_Take.st s 4).1 (quad_Take.st s 4).2 = 0 := by
      rw [quad_st_ok s 4 (by omega)]
      unfold M.xend
      exact if_neg (fun z => by have := z.2; simp only at this; omega)
    rw [e1, if_pos rfl, if_pos h, quad_tx_ok s 0 (by omega), quad_tx_ok s 1 (by omega), quad_tx_ok s 2 (by omega), quad_tx_ok s 3 (by omega), h]
  · have e2 : M.xend s (quad_Take.st s 4).1 (quad_Take.st s 4).2 = 3 := by
      unfold M.xend
      by_cases h2 : s.size < 129
      · have := quad_st_bad s h1 4 (by omega)
        rw [this]
        split <;> rfl
      · rw [quad_st_ok s 4 (by omega)]
        exact if_pos ⟨rfl, by simp only; omega⟩
    rw [e2, if_neg (show ¬ (3 : Int) = 0 by decide), if_neg h]
theorem ref32 (s : ByteArray) : pleachref32_Take.f s = some (if s.size = 129 ∧ bt s 0 = 71 then (s.extract 1 33, s.extract 33 65, s.extract 65 97, s.extract 97 s.size, true) else (⟨#[]⟩, ⟨#[]⟩, ⟨#[]⟩, ⟨#[]⟩, false)) := by
  unfold pleachref32_Take.f
  by_cases h : s.size = 129
  · rw [if_pos (by omega), if_pos (by omega)]
    by_cases h2 : bt s 0 = 71
    · rw [show (if s.size = 129 ∧ bt s 0 = 71 then (s.extract 1 33, s.extract 33 65, s.extract 65 97, s.extract 97 s.size, true) else ((⟨#[]⟩ : ByteArray), (⟨#[]⟩ : ByteArray), (⟨#[]⟩ : ByteArray), (⟨#[]⟩ : ByteArray), false)) = (s.extract 1 33, s.extract 33 65, s.extract 65 97, s.extract 97 s.size, true) from if_pos ⟨h, h2⟩]
      rw [if_pos h2, if_pos (by decide), if_pos (by omega), if_pos (by decide), if_pos (by omega), if_pos (by decide), if_pos (by omega)]
    · rw [if_neg h2, if_neg (fun z => h2 z.2)]
  · rw [if_neg (by omega), if_neg (fun z => h z.1)]
theorem res_or (s : ByteArray) : (chunk_Take.res s).2.2.2 = 0 ∨ chunk_Take.res s = (0, [], [], 3) := by
  have hf : ∀ (lv : Int) (r : List S43 × List Int × Int × Int), (chunk_Take.fin s lv r).2.2.2 = 0 ∨ chunk_Take.fin s lv r = (0, [], [], 3) := by
    intro lv r
    unfold chunk_Take.fin
    split
    · exact .inl rfl
    · exact .inr rfl
  unfold chunk_Take.res
  split
  · exact hf _ _
  · split
    · split
      · exact .inr rfl
      · exact hf _ _
    · exact .inr rfl
theorem res_len {s : ByteArray} (h : (chunk_Take.res s).2.2.2 = 0) : (chunk_Take.res s).2.1.length ≤ 8 := by
  have hf : ∀ (lv : Int) (r : List S43 × List Int × Int × Int), (chunk_Take.fin s lv r).2.2.2 = 0 → chunk_fits.wrong (chunk_Take.fin s lv r).1 (chunk_Take.fin s lv r).2.1 (chunk_Take.fin s lv r).2.2.1 = 0 := by
    intro lv r h
    unfold chunk_Take.fin at h ⊢
    split
    · rename_i hc; exact hc.2
    · rename_i hc; rw [if_neg hc] at h; exact absurd h (show ¬ (3 : Int) = 0 by decide)
  have hw : chunk_fits.wrong (chunk_Take.res s).1 (chunk_Take.res s).2.1 (chunk_Take.res s).2.2.1 = 0 := by
    unfold chunk_Take.res at h ⊢
    split at h
    · rename_i c1; simp only [if_pos c1]; exact hf _ _ h
    · rename_i c1
      split at h
      · rename_i c2
        split at h
        · exact absurd h (show ¬ (3 : Int) = 0 by decide)
        · rename_i c3; simp only [if_neg c1, if_pos c2, if_neg c3]; exact hf _ _ h
      · exact absurd h (show ¬ (3 : Int) = 0 by decide)
  exact (chunk_fits.wrong_ok hw).2.2.1
def vals (lv : Int) (es : List S43) : List ByteArray := if lv > 0 then es.map (·.f1) else []
theorem vals_len (lv : Int) (es : List S43) : (vals lv es).length ≤ es.length := by unfold vals; split <;> simp
theorem mark_loop (lv : Int) (es : List S43) (cs : List Int) (er : Int) (he : es.length ≤ 8) (m d : Nat) : ∀ (i : Nat) (x : List ByteArray), i + d = es.length → x.length ≤ i →
    mark_Names.l0 (d + (m + 2)) x er es (es.length : Int) (i : Int) lv es cs = mark_Names.j2 (m + 1) (x ++ vals lv (es.drop i)) er := by
  induction d with
  | zero =>
    intro i x hi hx
    rw [Nat.zero_add, mark_Names.l0, if_neg (by omega), List.drop_of_length_le (by omega)]
    unfold vals
    simp
  | succ d ih =>
    intro i x hi hx
    have hlt : i < es.length := by omega
    have hrd : rd_T43 es (i : Int) = es[i] := by simp [rd_T43, List.getD, hlt]
    rw [show d + 1 + (m + 2) = (d + (m + 2)) + 1 from by omega, mark_Names.l0, if_pos (by omega), if_pos (by omega), if_pos (by omega), M.wrap64_id (i := (i : Int) + 1) (by omega) (by omega), show (i : Int) + 1 = ((i + 1 : Nat) : Int) from by omega]
    have hv : vals lv (es.drop i) = (if lv > 0 then [es[i].f1] else []) ++ vals lv (es.drop (i + 1)) := by
      unfold vals
      by_cases hl : lv > 0
      · simp only [if_pos hl]; rw [List.drop_eq_getElem_cons hlt]; rfl
      · simp only [if_neg hl]; rfl
    by_cases hl : lv > 0
    · rw [if_pos hl, Option.bind_some, if_pos (by simp; omega), hrd, ih (i + 1) _ (by omega) (by simp; omega), hv, if_pos hl, List.append_assoc]
    · rw [if_neg hl, ih (i + 1) _ (by omega) (by omega), hv, if_neg hl, List.nil_append]
theorem ref_loop (lv : Int) (es : List S43) (cs : List Int) (he : es.length ≤ 8) (m d : Nat) : ∀ (i : Nat) (x : List ByteArray), i + d = es.length → x.length ≤ i →
    pleachref39_Names.l0 (d + (m + 1)) x es (es.length : Int) (i : Int) lv es cs = some (x ++ vals lv (es.drop i), true) := by
  induction d with
  | zero =>
    intro i x hi hx
    rw [Nat.zero_add, pleachref39_Names.l0, if_neg (by omega), List.drop_of_length_le (by omega)]
    unfold vals
    simp
  | succ d ih =>
    intro i x hi hx
    have hlt : i < es.length := by omega
    have hrd : rd_T43 es (i : Int) = es[i] := by simp [rd_T43, List.getD, hlt]
    rw [show d + 1 + (m + 1) = (d + (m + 1)) + 1 from by omega, pleachref39_Names.l0, if_pos (by omega), if_pos (by omega), if_pos (by omega), M.wrap64_id (i := (i : Int) + 1) (by omega) (by omega), show (i : Int) + 1 = ((i + 1 : Nat) : Int) from by omega]
    have hv : vals lv (es.drop i) = (if lv > 0 then [es[i].f1] else []) ++ vals lv (es.drop (i + 1)) := by
      unfold vals
      by_cases hl : lv > 0
      · simp only [if_pos hl]; rw [List.drop_eq_getElem_cons hlt]; rfl
      · simp only [if_neg hl]; rfl
    by_cases hl : lv > 0
    · rw [if_pos hl, Option.bind_some, if_pos (by simp; omega), hrd, ih (i + 1) _ (by omega) (by simp; omega), hv, if_pos hl, List.append_assoc]
    · rw [if_neg hl, ih (i + 1) _ (by omega) (by omega), hv, if_neg hl, List.nil_append]
theorem ref_not (s : ByteArray) (hz : s.size ≤ 3000) (h19 : chunk_Take.res s = (0, [], [], 3)) (h32 : ¬ (s.size = 129 ∧ bt s 0 = 71)) (hc : ¬ M.cgood s) (k : Nat) : pleachref39_Names.f k s = some ([], false) := by
  unfold pleachref39_Names.f pleachref19_Take.f
  rw [if_pos (by omega), Option.bind_some]
  unfold pleachref19_Take.of
  rw [h19, if_neg (by decide), ref32, if_neg h32, Option.bind_some, if_neg (by simp)]
  unfold pleachref35_Take.f
  rw [if_pos (by omega), if_neg hc, Option.bind_some]
  unfold pleachref35_Take.no
  rw [if_neg (by simp)]
theorem both (s : ByteArray) (hz : s.size ≤ 3000) : ∃ (l : List ByteArray) (b : Bool), l.length ≤ 100 ∧ mark_Names.f 20 s = some (l, if b = true then 0 else 3) ∧ pleachref39_Names.f 20 s = some (l, b) := by
  by_cases h0 : s.size = 0
  · have hx : M.xbyte s 0 0 = (0, 0, 3) := by unfold M.xbyte; rw [if_pos rfl, if_neg (by omega)]
    refine ⟨[], false, by simp, ?_, ref_not s hz ?_ (fun z => by omega) (fun z => ?_) 20⟩
    · unfold mark_Names.f
      rw [if_pos (by rw [M.toList_bs]; exact List.eq_nil_of_length_eq_zero (by rw [M.bs_length]; exact h0))]; rfl
    · unfold chunk_Take.res
      rw [hx, if_neg (by decide), if_neg (by decide)]
    · have := z.1
      rw [hx] at this
      exact absurd this (by decide)
  · have hx : M.xbyte s 0 0 = (bt s 0, 1, 0) := by unfold M.xbyte; rw [if_pos rfl, if_pos (by omega)]; rfl
    have hm : ∀ k, mark_Names.f k s = if (bt s 0) = 76 then mark_Names.j0 k s [] (bt s 0) ((bt s 0) == 76) else mark_Names.j0 k s [] (bt s 0) ((bt s 0) == 73) := by
      intro k
      unfold mark_Names.f
      rw [if_neg (fun z => h0 (by rw [← M.bs_length, ← M.toList_bs, z]; rfl)), if_pos (by omega)]
    have hchunk : (bt s 0 = 76 ∨ bt s 0 = 73) → ∃ (l : List ByteArray) (b : Bool), l.length ≤ 100 ∧ mark_Names.f 20 s = some (l, if b = true then 0 else 3) ∧ pleachref39_Names.f 20 s = some (l, b) := by
      intro hc
      have hj : mark_Names.f 20 s = mark_Names.j0 20 s [] (bt s 0) true := by
        rw [hm]
        rcases hc with hc | hc
        · rw [if_pos hc, hc]; rfl
        · rw [if_neg (by omega), hc]; rfl
      rw [hj, mark_Names.j0, if_pos rfl]
      unfold chunk_Take.f
      rw [if_pos (by omega), Option.bind_some]
      rcases res_or s with hr | hr
      · have hl8 := res_len hr
        obtain ⟨⟨lv, es, cs, er⟩, hq⟩ : ∃ y, chunk_Take.res s = y := ⟨_, rfl⟩
        rw [hq] at hr hl8 ⊢
        simp only at hr hl8
        subst hr
        have h1 := mark_loop lv es cs 0 hl8 (17 - es.length) es.length 0 [] (by omega) (by simp)
        have h2 := ref_loop lv es cs hl8 (19 - es.length) es.length 0 [] (by omega) (by simp)
        rw [show es.length + (17 - es.length + 2) = 19 from by omega, List.drop_zero, List.nil_append, mark_Names.j2, if_pos rfl] at h1
        rw [show es.length + (19 - es.length + 1) = 20 from by omega, List.drop_zero, List.nil_append] at h2
        refine ⟨vals lv es, true, by have := vals_len lv es; omega, h1, ?_⟩
        unfold pleachref39_Names.f pleachref19_Take.f
        rw [if_pos (by omega), Option.bind_some]
        unfold pleachref19_Take.of
        rw [hq, if_pos rfl, if_pos rfl]
        exact h2
      · rw [hr]
        have h1 := mark_loop 0 [] [] 3 (by decide) 17 0 0 [] rfl (by simp)
        refine ⟨[], false, by simp, ?_, ref_not s hz hr (fun z => by omega) (fun z => ?_) 20⟩
        · refine h1.trans ?_
          rw [mark_Names.j2, if_neg (by decide)]; rfl
        · have := z.1
          rw [hx] at this
          rcases hc with hc | hc <;> omega
    by_cases c1 : bt s 0 = 76
    · exact hchunk (.inl c1)
    by_cases c2 : bt s 0 = 73
    · exact hchunk (.inr c2)
    have h19 : chunk_Take.res s = (0, [], [], 3) := by unfold chunk_Take.res; rw [hx, if_neg c1, if_neg c2]
    have hj : mark_Names.f 20 s = mark_Names.j0 20 s [] (bt s 0) false := by rw [hm, if_neg c1, beq_eq_false_iff_ne.2 c2]
    rw [hj, mark_Names.j0, if_neg (by simp)]
    by_cases c3 : bt s 0 = 71
    · rw [if_pos c3]
      unfold quad_Take.f
      rw [if_pos ⟨by omega, by rw [hx, c3]⟩, Option.bind_some, quad_res s (by omega)]
      have hnc : ¬ M.cgood s := fun z => by have := z.1; rw [hx] at this; omega
      by_cases h129 : s.size = 129
      · rw [if_pos h129]
        refine ⟨_, true, ?_, by rw [mark_Names.j2, if_pos rfl]; rfl, ?_⟩
        · simp
        · unfold pleachref39_Names.f pleachref19_Take.f
          rw [if_pos (by omega), Option.bind_some]
          unfold pleachref19_Take.of
          rw [h19, if_neg (by decide), ref32, if_pos ⟨h129, c3⟩, Option.bind_some, if_pos rfl]
      · rw [if_neg h129]
        exact ⟨[], false, by simp, by rw [mark_Names.j2, if_neg (by decide)]; rfl, ref_not s hz h19 (fun z => h129 z.1) hnc 20⟩
    · rw [if_neg c3]
      unfold commit_Take.f
      rw [if_pos (by omega), Option.bind_some]
      by_cases hc : M.cgood s
      · have hP : (M.cP s).1.length ≤ 2 := hc.2.2.2.1
        rw [if_pos hc]
        unfold slices_Clone_string_string.f
        rw [if_pos (by simp only; omega), Option.bind_some, Option.bind_some, if_pos (by simp; omega), mark_Names.j2, if_pos rfl]
        refine ⟨_, true, ?_, rfl, ?_⟩
        · simp; omega
        · unfold pleachref39_Names.f pleachref19_Take.f
          rw [if_pos (by omega), Option.bind_some]
          unfold pleachref19_Take.of
          rw [h19, if_neg (by decide), ref32, if_neg (fun z => c3 z.2), Option.bind_some, if_neg (by simp)]
          unfold pleachref35_Take.f
          rw [if_pos (by omega), if_pos hc, Option.bind_some, if_pos rfl, Option.bind_some, if_pos (by simp; omega), Option.bind_some, Option.bind_some, if_pos (by simp; omega), List.nil_append]
      · rw [if_neg hc]
        unfold commit_Take.no slices_Clone_string_string.f
        rw [if_pos (by simp), Option.bind_some, Option.bind_some, if_pos (by simp), mark_Names.j2, if_neg (by decide)]
        exact ⟨[], false, by simp, rfl, ref_not s hz h19 (fun z => c3 z.2) hc 20⟩
theorem MarkNames : pleachlaw39_MarkNames.Pure := by
  intro s _
  refine ⟨20, ?_⟩
  unfold pleachlaw39_MarkNames.f
  by_cases hs : (s.size : Int) > 3000
  · rw [if_pos hs]; rfl
  · rw [if_neg hs]
    obtain ⟨l, b, hl, h1, h2⟩ := both s (by omega)
    rw [h1, h2, Option.bind_some, Option.bind_some]
    unfold pleachplain_Texts.f
    rw [if_pos (by simp only; omega), Option.bind_some, if_pos (by simp)]
    cases b with
    | true => simp [pleachlaw39_awake.f]
    | false => simp [pleachlaw39_awake.f]
end Go.Proofs.YtkjbhgolillidaaDoor.Pure
namespace Go.Proofs.YtkjbhgolillidaaDoor.markNames
open Go.ChangeShapes Go.WideShapes Go.ChangeAt Go.RowKit Go.Proofs.YtkjbhgolillidaaDoor.EMarkNames Go.Proofs.YtkjbhgolillidaaDoorW.PrintWords
open Go.ChangeMaps (open_string shut_string)
set_option linter.unusedVariables false
theorem own : ownKnob Tryd.prog.godebug = none := by kernel_rfl
theorem laidOut : laidOutB Tryd.prog = true := by kernel_rfl
theorem door_met (os : Os) (args : Array Value) : laidMetH Tryd.prog [("pleach/sha.first", Rows.laid_pleach_sha_first), ("pleach/sha.constants", Rows.laid_pleach_sha_constants)] ((World.doorLaid Tryd.prog 19 os).forCall (fun _ _ => 0) ⟨#[], args, []⟩).memory :=
  laidMetH_of_parts3 (fuel := 8) (laidMet_of_run' 8 (by kernel_rfl) (by kernel_rfl)) (by kernel_rfl) (by kernel_rfl)
set_option maxRecDepth 100000 in
theorem lifted (os : Os) (started : os.Started) (H : Type) (enc : TypeId × Value → H) :
    ReturnsInHanded {} Tryd.checked os 3 .any (fun w args => (Rows.markNamesSpec.pre enc Tryd.prog Tryd.f3 Rows.markNamesRow.domain false w args ∧ laidMetH Tryd.prog [("pleach/sha.first", Rows.laid_pleach_sha_first), ("pleach/sha.constants", Rows.laid_pleach_sha_constants)] w) ∧ sizedMet enc Tryd.prog Tryd.f3 (OpenSpec.ofChange Rows.markNamesSpec) false w args) (Rows.markNamesSpec.post enc Tryd.prog Tryd.f3 false true false false) := by
  refine returnsInHanded_of_change_and (C := Tryd.checked) (X := fun w _ => laidMetH Tryd.prog [("pleach/sha.first", Rows.laid_pleach_sha_first), ("pleach/sha.constants", Rows.laid_pleach_sha_constants)] w) (fun _ _ _ hh h => h.of_heap hh) own started (by kernel_rfl) Tryd.func3
    (ChangeSpec.witness_shaped (enc := enc) (C := Tryd.checked) (os := os) (X := fun w _ => laidMetH Tryd.prog [("pleach/sha.first", Rows.laid_pleach_sha_first), ("pleach/sha.constants", Rows.laid_pleach_sha_constants)] w) false (World.doorLaid Tryd.prog 19 os) #[.string ByteArray.empty] 8 rfl (World.shaped_of_RefB (by kernel_rfl) (by kernel_rfl)) (by kernel_rfl) (by kernel_rfl) (by kernel_rfl) (door_met os _)) ?_
  intro W base args ds gs before hval0 hW hcnd hsz0 hL0 _
  have hL := hL0
  rw [MakeChecks.laidMetH_plain _ _ _ (by kernel_rfl)] at hL
  have hL2 : laidMet Tryd.prog [("pleach/sha.first", Lib.tabData .u32 (M.nums32 M.shaH)), ("pleach/sha.constants", Lib.tabData .u32 (M.nums32 M.shaK))] W := hL
  have hT1 := Lib.tabIs_of_head (g := 0) (t := 105) (e := 104) (n := 8) (by kernel_rfl) (by kernel_rfl) (by kernel_rfl) (by kernel_rfl) (by kernel_rfl) (by kernel_rfl) hL2
  have hL3 : laidMet Tryd.prog [("pleach/sha.constants", Lib.tabData .u32 (M.nums32 M.shaK))] W := by
    obtain ⟨ps, ⟨g_, t_, cs, fuel, p, q, _, _, _, _, hr, rfl⟩, hn, hc⟩ := hL2
    exact ⟨q, hr, (List.nodup_append.1 hn).2.1, fun b off hb => hc b off (List.mem_append_right _ hb)⟩
  have hT2 := Lib.tabIs_of_head (g := 1) (t := 116) (e := 104) (n := 64) (by kernel_rfl) (by kernel_rfl) (by kernel_rfl) (by kernel_rfl) (by kernel_rfl) (by kernel_rfl) hL3
  have hTab : M.stab W := ⟨fun i hi => by
    have key : ∀ j : Fin 8, (M.nums32 M.shaH).getD j.val 0 = ((M.shaH.getD j.val 0 : Nat) : Int) := by decide
    have := hT1.cell (g := 0) (by kernel_rfl) i (by exact hi)
    rw [key ⟨i, hi⟩] at this
    exact this, fun i hi => by
    have key : ∀ j : Fin 64, (M.nums32 M.shaK).getD j.val 0 = ((M.shaK.getD j.val 0 : Nat) : Int) := by decide +kernel
    have := hT2.cell (g := 1) (by kernel_rfl) i (by exact hi)
    rw [key ⟨i, hi⟩] at this
    exact this⟩
  clear hL hL2 hL3 hT1 hT2
  have hsz : (DataW.weightsEach Tryd.prog (Tryd.f3.params.toList ++ Rows.markNamesSpec.plain.varTypes Tryd.prog) (ds ++ gs)).all (· ≤ reachBytes) = true := hsz0
  have hval : ∀ (j : Nat) t v, Tryd.f3.params[j]? = some t → args[j]? = some v → Value.okWide Tryd.prog W .any base t v := hval0
  have hW' := hW
  obtain ⟨p, q, hA0, hV, rfl, hfz, hnd⟩ := hW
  have hA : DataW.TrodAll enc Tryd.prog W 0 (fun _ => true) true Tryd.f3.params.toList args.toList ds p := hA0
  rw [Tryd.params3] at hA hval hsz
  obtain ⟨v0, vs0, d0, ds0, p0, q0, hargs, rfl, rfl, h0, r0⟩ := trodAll_cons hA
  obtain ⟨rfl, rfl, rfl⟩ := trodAll_nil r0
  obtain rfl : args = #[v0] := by cases args; simp_all
  obtain ⟨rfl, rfl⟩ := trodVars_none hV
  obtain ⟨a0, rfl, rfl, rfl, y0⟩ := open_string Tryd.underlying9 (hval 0 9 v0 rfl rfl) h0
  have w0 : a0.size ≤ 140737488351232 := by
    have z := sized_string hsz (j := 0) (t := 9) rfl rfl
    rw [Array.length_toList] at z
    exact z
  clear hA0 hval0 hsz0 hsz
  obtain ⟨k, hk⟩ := Pure.MarkNames a0 w0
  refine (pleachlaw39_MarkNames.calls (k := k) (a0 := a0) (r := true) (w := W)  (h := hk) (hT := hTab)).mono fun e W' ⟨he, bel0⟩ => ?_
  have bel : Below W.heap.size W W' := bel0
  subst he
  exact ⟨_, rfl, _, _, _, [], _, [], hW', trodAll_mk1 (shut_bool Tryd.underlying4 _), (trodAll_cons_mk (shut_string Tryd.underlying9 y0) trodAll_mk0), rfl, bel.frame _, fun h => by cases h⟩
theorem over : Rows.markNamesRow.holds Tryd.pinned (OpenSpec.ofChange Rows.markNamesSpec) :=
  OpenClaim.holds_of_wide 3 Tryd.f3 rfl rfl rfl rfl rfl rfl rfl ⟨rfl, rfl, rfl, rfl, rfl⟩ rfl rfl rfl rfl rfl (by kernel_rfl) Tryd.func3 (by kernel_rfl)
    (of_decide_eq_true (by kernel_rfl)) (by unfold Func.isWrapper; first | (rw [if_pos (by decide +kernel)]; kernel_rfl) | (rw [if_neg (by decide +kernel)]; exact ⟨rfl, rfl⟩))
    (fun os started H enc _ => lifted os started H enc)
theorem card : Rows.MarkNamesCardSaid :=
  Claim7.holds_tied_plain_at .later [] [.data, .data] true (true, "1fe615697f0089e3d98e967578f134b5af0f93ba7db6a3ade51f3db85dc81304") false
    over (fun _ h => by cases h) (by kernel_rfl) (fun _ h => by cases h) markNames_row_tie rfl ⟨rfl, rfl⟩ (by kernel_rfl) rfl
    (fun f fn hf hfn => by
      obtain rfl : f = 3 := Option.some.inj ((show Tryd.prog.funcNamed "pleach/pleachlaw39.MarkNames" = some 3 by kernel_rfl).symm.trans hf) |>.symm
      obtain rfl : fn = Tryd.f3 := (Option.some.inj (Tryd.func3.symm.trans hfn)).symm
      exact ⟨by kernel_rfl, fun j t ht => by
        rw [Tryd.params3] at ht
        rcases j with _ | j
        · obtain rfl : 9 = t := by simpa using ht
          exact (show Tryd.prog.wantsStandIn 9 = false by kernel_rfl)
        · simp at ht⟩)
    (by kernel_rfl)
theorem proved : Rows.MarkNamesCardSaid := card
#print axioms proved
end Go.Proofs.YtkjbhgolillidaaDoor.markNames
namespace Go.Proofs.YtkjbhgolillidaaDoor
theorem markNames_holds : Rows.MarkNamesCardSaid := markNames.proved
end Go.Proofs.YtkjbhgolillidaaDoor
