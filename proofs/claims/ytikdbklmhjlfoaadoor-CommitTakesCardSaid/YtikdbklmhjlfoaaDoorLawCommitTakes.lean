-- Written by this session's own program (wip/tools/xrow.py): the row of the law pleachlaw35_CommitTakes, out of its Pure and its contract.
import Derived.Test.YtikdbklmhjlfoaaDoorRows
import Derived.Test.YtikdbklmhjlfoaaDoorECommitTakesx12
import Derived.Test.YtikdbklmhjlfoaaDoorPureCommitTakes
import Derived.Test.YtikdbklmhjlfoaaDoorCCommitTakesMOpen
import Derived.WalkKit
import Derived.ProofKit
import Derived.OpenShut
import Derived.ShutString
import Derived.ChangeOld
import Derived.Below
import Derived.SizedLaws
import Derived.Test.YtikdbklmhjlfoaaDoorTie
import Derived.Test.YtikdbklmhjlfoaaDoorCards
import Derived.LaidLaws
import Derived.LaidMore
import Derived.Lib.LaidTab
import Derived.Stop.Joined
import Derived.SevenTiedAt
namespace Go.Proofs.YtikdbklmhjlfoaaDoor.commitTakes
open Go.ChangeShapes Go.WideShapes Go.ChangeAt Go.RowKit Go.Proofs.YtikdbklmhjlfoaaDoor.ECommitTakes Go.Proofs.YtikdbklmhjlfoaaDoorW.PrintWords
open Go.ChangeMaps (open_string shut_string)
set_option linter.unusedVariables false
theorem own : ownKnob Tryd.prog.godebug = none := by kernel_rfl
theorem laidOut : laidOutB Tryd.prog = true := by kernel_rfl
theorem door_met (os : Os) (args : Array Value) : laidMetH Tryd.prog [("pleach/sha.first", Rows.laid_pleach_sha_first), ("pleach/sha.constants", Rows.laid_pleach_sha_constants)] ((World.doorLaid Tryd.prog 19 os).forCall (fun _ _ => 0) ⟨#[], args, []⟩).memory :=
  laidMetH_of_parts3 (fuel := 8) (laidMet_of_run' 8 (by kernel_rfl) (by kernel_rfl)) (by kernel_rfl) (by kernel_rfl)
set_option maxRecDepth 100000 in
theorem lifted (os : Os) (started : os.Started) (H : Type) (enc : TypeId × Value → H) :
    ReturnsInHanded {} Tryd.checked os 3 .any (fun w args => (Rows.commitTakesSpec.pre enc Tryd.prog Tryd.f3 Rows.commitTakesRow.domain false w args ∧ laidMetH Tryd.prog [("pleach/sha.first", Rows.laid_pleach_sha_first), ("pleach/sha.constants", Rows.laid_pleach_sha_constants)] w) ∧ sizedMet enc Tryd.prog Tryd.f3 (OpenSpec.ofChange Rows.commitTakesSpec) false w args) (Rows.commitTakesSpec.post enc Tryd.prog Tryd.f3 false true false false) := by
  refine returnsInHanded_of_change_and (C := Tryd.checked) (X := fun w _ => laidMetH Tryd.prog [("pleach/sha.first", Rows.laid_pleach_sha_first), ("pleach/sha.constants", Rows.laid_pleach_sha_constants)] w) (fun _ _ _ hh h => h.of_heap hh) own started (by kernel_rfl) Tryd.func3
    (ChangeSpec.witness_shaped (enc := enc) (C := Tryd.checked) (os := os) (X := fun w _ => laidMetH Tryd.prog [("pleach/sha.first", Rows.laid_pleach_sha_first), ("pleach/sha.constants", Rows.laid_pleach_sha_constants)] w) false (World.doorLaid Tryd.prog 19 os) #[.string ByteArray.empty, .agg #[.int .i64 0, .slice none 0 0, .string ByteArray.empty, .string ByteArray.empty]] 8 rfl (World.shaped_of_RefB (by kernel_rfl) (by kernel_rfl)) (by kernel_rfl) (by kernel_rfl) (by kernel_rfl) (door_met os _)) ?_
  intro W base args ds gs before hval0 hW hcnd hsz0 hL0 _
  have hL := hL0
  rw [MakeChecks.laidMetH_plain _ _ _ (by kernel_rfl)] at hL
  have hL2 : laidMet Tryd.prog [("pleach/sha.first", Lib.tabData .u32 (M.nums32 M.shaH)), ("pleach/sha.constants", Lib.tabData .u32 (M.nums32 M.shaK))] W := hL
  have hT1 := Lib.tabIs_of_head (g := 0) (t := 121) (e := 116) (n := 8) (by kernel_rfl) (by kernel_rfl) (by kernel_rfl) (by kernel_rfl) (by kernel_rfl) (by kernel_rfl) hL2
  have hL3 : laidMet Tryd.prog [("pleach/sha.constants", Lib.tabData .u32 (M.nums32 M.shaK))] W := by
    obtain ⟨ps, ⟨g_, t_, cs, fuel, p, q, _, _, _, _, hr, rfl⟩, hn, hc⟩ := hL2
    exact ⟨q, hr, (List.nodup_append.1 hn).2.1, fun b off hb => hc b off (List.mem_append_right _ hb)⟩
  have hT2 := Lib.tabIs_of_head (g := 1) (t := 129) (e := 116) (n := 64) (by kernel_rfl) (by kernel_rfl) (by kernel_rfl) (by kernel_rfl) (by kernel_rfl) (by kernel_rfl) hL3
  have hTab : M.stab W := ⟨fun i hi => by
    have key : ∀ j : Fin 8, (M.nums32 M.shaH).getD j.val 0 = ((M.shaH.getD j.val 0 : Nat) : Int) := by decide
    have := hT1.cell (g := 0) (by kernel_rfl) i (by exact hi)
    rw [key ⟨i, hi⟩] at this
    exact this, fun i hi => by
    have key : ∀ j : Fin 64, (M.nums32 M.shaK).getD j.val 0 = ((M.shaK.getD j.val 0 : Nat) : Int) := by decide +kernel
    have := hT2.cell (g := 1) (by kernel_rfl) i (by exact hi)
    rw [key ⟨i, hi⟩] at this
    exact this⟩
  clear hL hL2 hL3 hT1 hT2
  have hsz : (DataW.weightsEach Tryd.prog (Tryd.f3.params.toList ++ Rows.commitTakesSpec.plain.varTypes Tryd.prog) (ds ++ gs)).all (· ≤ reachBytes) = true := hsz0
  have hval : ∀ (j : Nat) t v, Tryd.f3.params[j]? = some t → args[j]? = some v → Value.okWide Tryd.prog W .any base t v := hval0
  have hW' := hW
  obtain ⟨p, q, hA0, hV, rfl, hfz, hnd⟩ := hW
  have hA : DataW.TrodAll enc Tryd.prog W 0 (fun _ => true) true Tryd.f3.params.toList args.toList ds p := hA0
  rw [Tryd.params3] at hA hval hsz
  obtain ⟨v0, vs0, d0, ds0, p0, q0, hargs, rfl, rfl, h0, r0⟩ := trodAll_cons hA
  obtain ⟨v1, vs1, d1, ds1, p1, q1, rfl, rfl, rfl, h1, r1⟩ := trodAll_cons r0
  obtain ⟨rfl, rfl, rfl⟩ := trodAll_nil r1
  obtain rfl : args = #[v0, v1] := by cases args; simp_all
  obtain ⟨rfl, rfl⟩ := trodVars_none hV
  obtain ⟨a0, rfl, rfl, rfl, y0⟩ := open_string Tryd.underlying9 (hval 0 9 v0 rfl rfl) h0
  have w0 : a0.size ≤ 140737488351232 := by
    have z := sized_string hsz (j := 0) (t := 9) rfl rfl
    rw [Array.length_toList] at z
    exact z
  obtain ⟨cs1, rfl, _⟩ := okWide_struct Tryd.underlying24 (hval 1 24 v1 rfl rfl)
  have k1 := h1
  have lt1 : ∀ x ∈ p1, x.block < W.heap.size := by obtain ⟨m, hm⟩ := k1; exact DataW.trod_lt m _ _ _ hm
  obtain ⟨fuel1, hf1⟩ := h1
  obtain ⟨⟨a1_0, ⟨l1_1, ⟨a1_2, a1_3⟩⟩⟩, hK1, ⟨g1_0, ⟨g1_1, ⟨g1_2, g1_3⟩⟩⟩⟩ := M.opn_tuple Tryd.underlying24 (M.opnF_cons (by kernel_rfl) (M.opn_int (P := Tryd.prog) (t := 3) (k := .i64) (by kernel_rfl)) (M.opnF_cons (by kernel_rfl) (M.opn_slice (P := Tryd.prog) (t := 22) (e := 9) (by kernel_rfl) (by kernel_rfl) (M.opn_string (P := Tryd.prog) (t := 9) (by kernel_rfl))) (M.opnF_cons (by kernel_rfl) (M.opn_string (P := Tryd.prog) (t := 9) (by kernel_rfl)) (M.opnF_last (by kernel_rfl) (by kernel_rfl) (M.opn_string (P := Tryd.prog) (t := 9) (by kernel_rfl)))))) H enc W fuel1 _ _ hf1
  obtain ⟨x1_0, y1_0, hxy1_0, rfl, ⟨x1_1, y1_1, hxy1_1, ⟨A1_1, c1_1, rfl, hl1_1, hC1_1⟩, ⟨x1_2, y1_2, hxy1_2, rfl, rfl⟩⟩⟩ := hK1
  subst hxy1_2
  subst hxy1_1
  obtain rfl : cs1 = #[.int .i64 a1_0, .slice A1_1 l1_1.length c1_1, .string a1_2, .string a1_3] := Array.ext' hxy1_0
  clear hA0 hval0 hsz0 hsz
  obtain ⟨k, hk⟩ := Pure.CommitTakes a0 a1_0 l1_1 a1_2 a1_3 w0 g1_0 g1_1 g1_2 g1_3
  refine (pleachlaw35_CommitTakes.calls (k := k) (a0 := a0) (a1_0 := a1_0) (l1_1 := l1_1) (a1_2 := a1_2) (a1_3 := a1_3) (r := true) (w := W) (hr1_1 := hC1_1) (hc1_1 := hl1_1) (h := hk) (hT := hTab)).mono fun e W' ⟨he, bel0⟩ => ?_
  have bel : Below W.heap.size W W' := bel0
  subst he
  exact ⟨_, rfl, _, _, _, [], _, [], hW', trodAll_mk1 (shut_bool Tryd.underlying4 _), (trodAll_cons_mk (shut_string Tryd.underlying9 y0) (trodAll_cons_mk (Below.trod laidOut (by kernel_rfl) (of_decide_eq_true (by kernel_rfl)) k1 bel lt1) trodAll_mk0)), rfl, bel.frame _, fun h => by cases h⟩
theorem over : Rows.commitTakesRow.holds Tryd.pinned (OpenSpec.ofChange Rows.commitTakesSpec) :=
  OpenClaim.holds_of_wide 3 Tryd.f3 rfl rfl rfl rfl rfl rfl rfl ⟨rfl, rfl, rfl, rfl, rfl⟩ rfl rfl rfl rfl rfl (by kernel_rfl) Tryd.func3 (by kernel_rfl)
    (of_decide_eq_true (by kernel_rfl)) (by unfold Func.isWrapper; first | (rw [if_pos (by decide +kernel)]; kernel_rfl) | (rw [if_neg (by decide +kernel)]; exact ⟨rfl, rfl⟩))
    (fun os started H enc _ => lifted os started H enc)
theorem card : Rows.CommitTakesCardSaid :=
  Claim7.holds_tied_plain_at .later [] [.data, .data] true (true, "03aaf8c9be8e3f365ded211e5c81515a1d6abb5e0a4f8fb6a2f449acb5df7b04") false
    over (fun _ h => by cases h) (by kernel_rfl) (fun _ h => by cases h) commitTakes_row_tie rfl ⟨rfl, rfl⟩ (by kernel_rfl) rfl
    (fun f fn hf hfn => by
      obtain rfl : f = 3 := Option.some.inj ((show Tryd.prog.funcNamed "pleach/pleachlaw35.CommitTakes" = some 3 by kernel_rfl).symm.trans hf) |>.symm
      obtain rfl : fn = Tryd.f3 := (Option.some.inj (Tryd.func3.symm.trans hfn)).symm
      exact ⟨by kernel_rfl, fun j t ht => by
        rw [Tryd.params3] at ht
        rcases j with _ | _ | j
        · obtain rfl : 9 = t := by simpa using ht
          exact (show Tryd.prog.wantsStandIn 9 = false by kernel_rfl)
        · obtain rfl : 24 = t := by simpa using ht
          exact (show Tryd.prog.wantsStandIn 24 = false by kernel_rfl)
        · simp at ht⟩)
    (by kernel_rfl)
theorem proved : Rows.CommitTakesCardSaid := card
#print axioms proved
end Go.Proofs.YtikdbklmhjlfoaaDoor.commitTakes
namespace Go.Proofs.YtikdbklmhjlfoaaDoor
/-- The row, under a short name, for the claim. -/
theorem commitTakes_holds : Rows.CommitTakesCardSaid := commitTakes.proved
end Go.Proofs.YtikdbklmhjlfoaaDoor
