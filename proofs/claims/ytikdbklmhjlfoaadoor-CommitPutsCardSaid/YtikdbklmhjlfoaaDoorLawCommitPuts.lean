-- Written by this session's own program (wip/tools/xrow.py): the row of the law pleachlaw35_CommitPuts, out of its Pure and its contract.
import Derived.Test.YtikdbklmhjlfoaaDoorRows
import Derived.Test.YtikdbklmhjlfoaaDoorECommitPutsx10
import Derived.Test.YtikdbklmhjlfoaaDoorPureCommitPuts
import Derived.Test.YtikdbklmhjlfoaaDoorCCommitPutsMOpen
import Derived.WalkKit
import Derived.ProofKit
import Derived.OpenShut
import Derived.ShutString
import Derived.ChangeOld
import Derived.Below
import Derived.SizedLaws
import Derived.Test.YtikdbklmhjlfoaaDoorTie
import Derived.Test.YtikdbklmhjlfoaaDoorCards
import Derived.LaidLaws
import Derived.LaidMore
import Derived.Lib.LaidTab
import Derived.Stop.Joined
import Derived.SevenTiedAt
namespace Go.Proofs.YtikdbklmhjlfoaaDoor.commitPuts
open Go.ChangeShapes Go.WideShapes Go.ChangeAt Go.RowKit Go.Proofs.YtikdbklmhjlfoaaDoor.ECommitPuts Go.Proofs.YtikdbklmhjlfoaaDoorW.PrintWords
open Go.ChangeMaps (open_string shut_string)
set_option linter.unusedVariables false
theorem own : ownKnob Tryd.prog.godebug = none := by kernel_rfl
theorem laidOut : laidOutB Tryd.prog = true := by kernel_rfl
theorem door_met (os : Os) (args : Array Value) : laidMetH Tryd.prog [("pleach/sha.first", Rows.laid_pleach_sha_first), ("pleach/sha.constants", Rows.laid_pleach_sha_constants)] ((World.doorLaid Tryd.prog 19 os).forCall (fun _ _ => 0) ⟨#[], args, []⟩).memory :=
  laidMetH_of_parts3 (fuel := 8) (laidMet_of_run' 8 (by kernel_rfl) (by kernel_rfl)) (by kernel_rfl) (by kernel_rfl)
set_option maxRecDepth 100000 in
theorem lifted (os : Os) (started : os.Started) (H : Type) (enc : TypeId × Value → H) :
    ReturnsInHanded {} Tryd.checked os 4 .any (fun w args => (Rows.commitPutsSpec.pre enc Tryd.prog Tryd.f4 Rows.commitPutsRow.domain false w args ∧ laidMetH Tryd.prog [("pleach/sha.first", Rows.laid_pleach_sha_first), ("pleach/sha.constants", Rows.laid_pleach_sha_constants)] w) ∧ sizedMet enc Tryd.prog Tryd.f4 (OpenSpec.ofChange Rows.commitPutsSpec) false w args) (Rows.commitPutsSpec.post enc Tryd.prog Tryd.f4 false true false false) := by
  refine returnsInHanded_of_change_and (C := Tryd.checked) (X := fun w _ => laidMetH Tryd.prog [("pleach/sha.first", Rows.laid_pleach_sha_first), ("pleach/sha.constants", Rows.laid_pleach_sha_constants)] w) (fun _ _ _ hh h => h.of_heap hh) own started (by kernel_rfl) Tryd.func4
    (ChangeSpec.witness_shaped (enc := enc) (C := Tryd.checked) (os := os) (X := fun w _ => laidMetH Tryd.prog [("pleach/sha.first", Rows.laid_pleach_sha_first), ("pleach/sha.constants", Rows.laid_pleach_sha_constants)] w) false (World.doorLaid Tryd.prog 19 os) #[.agg #[.int .i64 0, .slice none 0 0, .string ByteArray.empty, .string ByteArray.empty]] 8 rfl (World.shaped_of_RefB (by kernel_rfl) (by kernel_rfl)) (by kernel_rfl) (by kernel_rfl) (by kernel_rfl) (door_met os _)) ?_
  intro W base args ds gs before hval0 hW hcnd hsz0 hL0 _
  have hL := hL0
  rw [MakeChecks.laidMetH_plain _ _ _ (by kernel_rfl)] at hL
  have hL2 : laidMet Tryd.prog [("pleach/sha.first", Lib.tabData .u32 (M.nums32 M.shaH)), ("pleach/sha.constants", Lib.tabData .u32 (M.nums32 M.shaK))] W := hL
  have hT1 := Lib.tabIs_of_head (g := 0) (t := 121) (e := 116) (n := 8) (by kernel_rfl) (by kernel_rfl) (by kernel_rfl) (by kernel_rfl) (by kernel_rfl) (by kernel_rfl) hL2
  have hL3 : laidMet Tryd.prog [("pleach/sha.constants", Lib.tabData .u32 (M.nums32 M.shaK))] W := by
    obtain ⟨ps, ⟨g_, t_, cs, fuel, p, q, _, _, _, _, hr, rfl⟩, hn, hc⟩ := hL2
    exact ⟨q, hr, (List.nodup_append.1 hn).2.1, fun b off hb => hc b off (List.mem_append_right _ hb)⟩
  have hT2 := Lib.tabIs_of_head (g := 1) (t := 129) (e := 116) (n := 64) (by kernel_rfl) (by kernel_rfl) (by kernel_rfl) (by kernel_rfl) (by kernel_rfl) (by kernel_rfl) hL3
  have hTab : M.stab W := ⟨fun i hi => by
    have key : ∀ j : Fin 8, (M.nums32 M.shaH).getD j.val 0 = ((M.shaH.getD j.val 0 : Nat) : Int) := by decide
    have := hT1.cell (g := 0) (by kernel_rfl) i (by exact hi)
    rw [key ⟨i, hi⟩] at this
    exact this, fun i hi => by
    have key : ∀ j : Fin 64, (M.nums32 M.shaK).getD j.val 0 = ((M.shaK.getD j.val 0 : Nat) : Int) := by decide +kernel
    have := hT2.cell (g := 1) (by kernel_rfl) i (by exact hi)
    rw [key ⟨i, hi⟩] at this
    exact this⟩
  clear hL hL2 hL3 hT1 hT2
  have hsz : (DataW.weightsEach Tryd.prog (Tryd.f4.params.toList ++ Rows.commitPutsSpec.plain.varTypes Tryd.prog) (ds ++ gs)).all (· ≤ reachBytes) = true := hsz0
  have hval : ∀ (j : Nat) t v, Tryd.f4.params[j]? = some t → args[j]? = some v → Value.okWide Tryd.prog W .any base t v := hval0
  have hW' := hW
  obtain ⟨p, q, hA0, hV, rfl, hfz, hnd⟩ := hW
  have hA : DataW.TrodAll enc Tryd.prog W 0 (fun _ => true) true Tryd.f4.params.toList args.toList ds p := hA0
  rw [Tryd.params4] at hA hval hsz
  obtain ⟨v0, vs0, d0, ds0, p0, q0, hargs, rfl, rfl, h0, r0⟩ := trodAll_cons hA
  obtain ⟨rfl, rfl, rfl⟩ := trodAll_nil r0
  obtain rfl : args = #[v0] := by cases args; simp_all
  obtain ⟨rfl, rfl⟩ := trodVars_none hV
  obtain ⟨cs0, rfl, _⟩ := okWide_struct Tryd.underlying24 (hval 0 24 v0 rfl rfl)
  have k0 := h0
  have lt0 : ∀ x ∈ p0, x.block < W.heap.size := by obtain ⟨m, hm⟩ := k0; exact DataW.trod_lt m _ _ _ hm
  obtain ⟨fuel0, hf0⟩ := h0
  obtain ⟨⟨a0_0, ⟨l0_1, ⟨a0_2, a0_3⟩⟩⟩, hK0, ⟨g0_0, ⟨g0_1, ⟨g0_2, g0_3⟩⟩⟩⟩ := M.opn_tuple Tryd.underlying24 (M.opnF_cons (by kernel_rfl) (M.opn_int (P := Tryd.prog) (t := 3) (k := .i64) (by kernel_rfl)) (M.opnF_cons (by kernel_rfl) (M.opn_slice (P := Tryd.prog) (t := 22) (e := 9) (by kernel_rfl) (by kernel_rfl) (M.opn_string (P := Tryd.prog) (t := 9) (by kernel_rfl))) (M.opnF_cons (by kernel_rfl) (M.opn_string (P := Tryd.prog) (t := 9) (by kernel_rfl)) (M.opnF_last (by kernel_rfl) (by kernel_rfl) (M.opn_string (P := Tryd.prog) (t := 9) (by kernel_rfl)))))) H enc W fuel0 _ _ hf0
  obtain ⟨x0_0, y0_0, hxy0_0, rfl, ⟨x0_1, y0_1, hxy0_1, ⟨A0_1, c0_1, rfl, hl0_1, hC0_1⟩, ⟨x0_2, y0_2, hxy0_2, rfl, rfl⟩⟩⟩ := hK0
  subst hxy0_2
  subst hxy0_1
  obtain rfl : cs0 = #[.int .i64 a0_0, .slice A0_1 l0_1.length c0_1, .string a0_2, .string a0_3] := Array.ext' hxy0_0
  clear hA0 hval0 hsz0 hsz
  have hk := Pure.CommitPuts a0_0 l0_1 a0_2 a0_3 g0_0 g0_1 g0_2 g0_3
  refine (pleachlaw35_CommitPuts.calls (a0_0 := a0_0) (l0_1 := l0_1) (a0_2 := a0_2) (a0_3 := a0_3) (r := true) (w := W) (hr0_1 := hC0_1) (hc0_1 := hl0_1) (h := hk) (hT := hTab)).mono fun e W' ⟨he, bel0⟩ => ?_
  have bel : Below W.heap.size W W' := bel0
  subst he
  exact ⟨_, rfl, _, _, _, [], _, [], hW', trodAll_mk1 (shut_bool Tryd.underlying4 _), (trodAll_cons_mk (Below.trod laidOut (by kernel_rfl) (of_decide_eq_true (by kernel_rfl)) k0 bel lt0) trodAll_mk0), rfl, bel.frame _, fun h => by cases h⟩
theorem over : Rows.commitPutsRow.holds Tryd.pinned (OpenSpec.ofChange Rows.commitPutsSpec) :=
  OpenClaim.holds_of_wide 4 Tryd.f4 rfl rfl rfl rfl rfl rfl rfl ⟨rfl, rfl, rfl, rfl, rfl⟩ rfl rfl rfl rfl rfl (by kernel_rfl) Tryd.func4 (by kernel_rfl)
    (of_decide_eq_true (by kernel_rfl)) (by unfold Func.isWrapper; first | (rw [if_pos (by decide +kernel)]; kernel_rfl) | (rw [if_neg (by decide +kernel)]; exact ⟨rfl, rfl⟩))
    (fun os started H enc _ => lifted os started H enc)
theorem card : Rows.CommitPutsCardSaid :=
  Claim7.holds_tied_plain_at .later [] [.data, .data] true (true, "03aaf8c9be8e3f365ded211e5c81515a1d6abb5e0a4f8fb6a2f449acb5df7b04") false
    over (fun _ h => by cases h) (by kernel_rfl) (fun _ h => by cases h) commitPuts_row_tie rfl ⟨rfl, rfl⟩ (by kernel_rfl) rfl
    (fun f fn hf hfn => by
      obtain rfl : f = 4 := Option.some.inj ((show Tryd.prog.funcNamed "pleach/pleachlaw35.CommitPuts" = some 4 by kernel_rfl).symm.trans hf) |>.symm
      obtain rfl : fn = Tryd.f4 := (Option.some.inj (Tryd.func4.symm.trans hfn)).symm
      exact ⟨by kernel_rfl, fun j t ht => by
        rw [Tryd.params4] at ht
        rcases j with _ | j
        · obtain rfl : 24 = t := by simpa using ht
          exact (show Tryd.prog.wantsStandIn 24 = false by kernel_rfl)
        · simp at ht⟩)
    (by kernel_rfl)
theorem proved : Rows.CommitPutsCardSaid := card
#print axioms proved
end Go.Proofs.YtikdbklmhjlfoaaDoor.commitPuts
namespace Go.Proofs.YtikdbklmhjlfoaaDoor
/-- The row, under a short name, for the claim. -/
theorem commitPuts_holds : Rows.CommitPutsCardSaid := commitPuts.proved
end Go.Proofs.YtikdbklmhjlfoaaDoor
