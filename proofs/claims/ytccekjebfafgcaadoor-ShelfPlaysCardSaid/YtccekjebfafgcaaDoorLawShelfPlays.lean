-- Written by this session's own program (wip/tools/xrow.py): the row of the law pleachlaw16_ShelfPlays, out of its Pure and its contract.
import Derived.Test.YtccekjebfafgcaaDoorRows
import Derived.Test.YtccekjebfafgcaaDoorEShelfPlaysx10
import Derived.Test.YtccekjebfafgcaaDoorPureShelfPlays
import Derived.Test.YtccekjebfafgcaaDoorCShelfPlaysMOpen
import Derived.WalkKit
import Derived.ProofKit
import Derived.OpenShut
import Derived.ShutString
import Derived.ChangeOld
import Derived.Below
import Derived.SizedLaws
import Derived.Test.YtccekjebfafgcaaDoorTie
import Derived.Test.YtccekjebfafgcaaDoorCards
import Derived.LaidLaws
import Derived.LaidMore
import Derived.Lib.LaidTab
import Derived.Stop.Joined
import Derived.SevenTiedAt
namespace Go.Proofs.YtccekjebfafgcaaDoor.shelfPlays
open Go.ChangeShapes Go.WideShapes Go.ChangeAt Go.RowKit Go.Proofs.YtccekjebfafgcaaDoor.EShelfPlays Go.Proofs.YtccekjebfafgcaaDoorW.PrintWords
open Go.ChangeMaps (open_string shut_string)
set_option linter.unusedVariables false
theorem own : ownKnob Tryd.prog.godebug = none := by kernel_rfl
theorem laidOut : laidOutB Tryd.prog = true := by kernel_rfl
theorem opn38 : M.Opn Tryd.prog 38 k38 Good38 :=
  M.opn_struct (fun x : S38 => (x.f0, x.f1, x.f2)) (fun v => ⟨v.1, v.2.1, v.2.2⟩) (fun _ => rfl) Tryd.underlying38 (M.opnF_cons (by kernel_rfl) (M.opn_int (P := Tryd.prog) (t := 3) (k := .i64) (by kernel_rfl)) (M.opnF_cons (by kernel_rfl) (M.opn_int (P := Tryd.prog) (t := 3) (k := .i64) (by kernel_rfl)) (M.opnF_last (by kernel_rfl) (by kernel_rfl) (M.opn_string (P := Tryd.prog) (t := 9) (by kernel_rfl)))))
theorem door_met (os : Os) (args : Array Value) : laidMetH Tryd.prog [("pleach/sha.first", Rows.laid_pleach_sha_first), ("pleach/sha.constants", Rows.laid_pleach_sha_constants)] ((World.doorLaid Tryd.prog 19 os).forCall (fun _ _ => 0) ⟨#[], args, []⟩).memory :=
  laidMetH_of_parts3 (fuel := 8) (laidMet_of_run' 8 (by kernel_rfl) (by kernel_rfl)) (by kernel_rfl) (by kernel_rfl)
set_option maxRecDepth 100000 in
theorem lifted (os : Os) (started : os.Started) (H : Type) (enc : TypeId × Value → H) :
    ReturnsInHanded {} Tryd.checked os 5 .any (fun w args => (Rows.shelfPlaysSpec.pre enc Tryd.prog Tryd.f5 Rows.shelfPlaysRow.domain false w args ∧ laidMetH Tryd.prog [("pleach/sha.first", Rows.laid_pleach_sha_first), ("pleach/sha.constants", Rows.laid_pleach_sha_constants)] w) ∧ sizedMet enc Tryd.prog Tryd.f5 (OpenSpec.ofChange Rows.shelfPlaysSpec) false w args) (Rows.shelfPlaysSpec.post enc Tryd.prog Tryd.f5 false true false false) := by
  refine returnsInHanded_of_change_and (C := Tryd.checked) (X := fun w _ => laidMetH Tryd.prog [("pleach/sha.first", Rows.laid_pleach_sha_first), ("pleach/sha.constants", Rows.laid_pleach_sha_constants)] w) (fun _ _ _ hh h => h.of_heap hh) own started (by kernel_rfl) Tryd.func5
    (ChangeSpec.witness_shaped (enc := enc) (C := Tryd.checked) (os := os) (X := fun w _ => laidMetH Tryd.prog [("pleach/sha.first", Rows.laid_pleach_sha_first), ("pleach/sha.constants", Rows.laid_pleach_sha_constants)] w) false (World.doorLaid Tryd.prog 19 os) #[.slice none 0 0, .string ByteArray.empty, .int .i64 0] 8 rfl (World.shaped_of_RefB (by kernel_rfl) (by kernel_rfl)) (by kernel_rfl) (by kernel_rfl) (by kernel_rfl) (door_met os _)) ?_
  intro W base args ds gs before hval0 hW hcnd hsz0 hL0 _
  have hL := hL0
  rw [MakeChecks.laidMetH_plain _ _ _ (by kernel_rfl)] at hL
  have hL2 : laidMet Tryd.prog [("pleach/sha.first", Lib.tabData .u32 (M.nums32 M.shaH)), ("pleach/sha.constants", Lib.tabData .u32 (M.nums32 M.shaK))] W := hL
  have hT1 := Lib.tabIs_of_head (g := 0) (t := 82) (e := 75) (n := 8) (by kernel_rfl) (by kernel_rfl) (by kernel_rfl) (by kernel_rfl) (by kernel_rfl) (by kernel_rfl) hL2
  have hL3 : laidMet Tryd.prog [("pleach/sha.constants", Lib.tabData .u32 (M.nums32 M.shaK))] W := by
    obtain ⟨ps, ⟨g_, t_, cs, fuel, p, q, _, _, _, _, hr, rfl⟩, hn, hc⟩ := hL2
    exact ⟨q, hr, (List.nodup_append.1 hn).2.1, fun b off hb => hc b off (List.mem_append_right _ hb)⟩
  have hT2 := Lib.tabIs_of_head (g := 1) (t := 90) (e := 75) (n := 64) (by kernel_rfl) (by kernel_rfl) (by kernel_rfl) (by kernel_rfl) (by kernel_rfl) (by kernel_rfl) hL3
  have hTab : M.stab W := ⟨fun i hi => by
    have key : ∀ j : Fin 8, (M.nums32 M.shaH).getD j.val 0 = ((M.shaH.getD j.val 0 : Nat) : Int) := by decide
    have := hT1.cell (g := 0) (by kernel_rfl) i (by exact hi)
    rw [key ⟨i, hi⟩] at this
    exact this, fun i hi => by
    have key : ∀ j : Fin 64, (M.nums32 M.shaK).getD j.val 0 = ((M.shaK.getD j.val 0 : Nat) : Int) := by decide +kernel
    have := hT2.cell (g := 1) (by kernel_rfl) i (by exact hi)
    rw [key ⟨i, hi⟩] at this
    exact this⟩
  clear hL hL2 hL3 hT1 hT2
  have hsz : (DataW.weightsEach Tryd.prog (Tryd.f5.params.toList ++ Rows.shelfPlaysSpec.plain.varTypes Tryd.prog) (ds ++ gs)).all (· ≤ reachBytes) = true := hsz0
  have hval : ∀ (j : Nat) t v, Tryd.f5.params[j]? = some t → args[j]? = some v → Value.okWide Tryd.prog W .any base t v := hval0
  have hW' := hW
  obtain ⟨p, q, hA0, hV, rfl, hfz, hnd⟩ := hW
  have hA : DataW.TrodAll enc Tryd.prog W 0 (fun _ => true) true Tryd.f5.params.toList args.toList ds p := hA0
  rw [Tryd.params5] at hA hval hsz
  obtain ⟨v0, vs0, d0, ds0, p0, q0, hargs, rfl, rfl, h0, r0⟩ := trodAll_cons hA
  obtain ⟨v1, vs1, d1, ds1, p1, q1, rfl, rfl, rfl, h1, r1⟩ := trodAll_cons r0
  obtain ⟨v2, vs2, d2, ds2, p2, q2, rfl, rfl, rfl, h2, r2⟩ := trodAll_cons r1
  obtain ⟨rfl, rfl, rfl⟩ := trodAll_nil r2
  obtain rfl : args = #[v0, v1, v2] := by cases args; simp_all
  obtain ⟨rfl, rfl⟩ := trodVars_none hV
  obtain ⟨q_a0, q_len0, q_cap0, rfl⟩ := okWide_slice Tryd.underlying36 (hval 0 36 v0 rfl rfl)
  have k0 := h0
  have lt0 : ∀ x ∈ p0, x.block < W.heap.size := by obtain ⟨m, hm⟩ := k0; exact DataW.trod_lt m _ _ _ hm
  obtain ⟨fuel0, hf0⟩ := h0
  obtain ⟨l0, ⟨A0, c0, e0, hl0, hC0⟩, hG0⟩ := (M.opn_slice (P := Tryd.prog) (t := 36) (e := 38) (by kernel_rfl) (by kernel_rfl) opn38) H enc W fuel0 _ _ hf0
  simp only [Value.cells, List.cons.injEq, Value.slice.injEq, and_true] at e0
  obtain ⟨rfl, rfl, rfl⟩ := e0
  obtain ⟨a1, rfl, rfl, rfl, y1⟩ := open_string Tryd.underlying9 (hval 1 9 v1 rfl rfl) h1
  have w1 : a1.size ≤ 140737488351232 := by
    have z := sized_string hsz (j := 1) (t := 9) rfl rfl
    rw [Array.length_toList] at z
    exact z
  obtain ⟨a2, rfl, rfl, rfl, w2⟩ := open_int Tryd.underlying3 (hval 2 3 v2 rfl rfl) h2
  clear hA0 hval0 hsz0 hsz
  have hk := Pure.ShelfPlays l0 a1 a2 hG0 w1 w2
  refine (pleachlaw16_ShelfPlays.calls (l0 := l0) (a1 := a1) (a2 := a2) (r := true) (w := W) (hr0 := hC0) (hc0 := hl0) (h := hk) (hT := hTab)).mono fun e W' ⟨he, bel0⟩ => ?_
  have bel : Below W.heap.size W W' := bel0
  subst he
  exact ⟨_, rfl, _, _, _, [], _, [], hW', trodAll_mk1 (shut_bool Tryd.underlying4 _), (trodAll_cons_mk (Below.trod laidOut (by kernel_rfl) (of_decide_eq_true (by kernel_rfl)) k0 bel lt0) (trodAll_cons_mk (shut_string Tryd.underlying9 y1) (trodAll_cons_mk (shut_int Tryd.underlying3 w2) trodAll_mk0))), rfl, bel.frame _, fun h => by cases h⟩
theorem over : Rows.shelfPlaysRow.holds Tryd.pinned (OpenSpec.ofChange Rows.shelfPlaysSpec) :=
  OpenClaim.holds_of_wide 5 Tryd.f5 rfl rfl rfl rfl rfl rfl rfl ⟨rfl, rfl, rfl, rfl, rfl⟩ rfl rfl rfl rfl rfl (by kernel_rfl) Tryd.func5 (by kernel_rfl)
    (of_decide_eq_true (by kernel_rfl)) (by unfold Func.isWrapper; first | (rw [if_pos (by decide +kernel)]; kernel_rfl) | (rw [if_neg (by decide +kernel)]; exact ⟨rfl, rfl⟩))
    (fun os started H enc _ => lifted os started H enc)
theorem card : Rows.ShelfPlaysCardSaid :=
  Claim7.holds_tied_plain_at .later [] [.data, .data] true (true, "300fdd0d1c73929203a8b3dbb175bd80f8796b2bc3826017683c8c12b8d8e6a4") false
    over (fun _ h => by cases h) (by kernel_rfl) (fun _ h => by cases h) shelfPlays_row_tie rfl ⟨rfl, rfl⟩ (by kernel_rfl) rfl
    (fun f fn hf hfn => by
      obtain rfl : f = 5 := Option.some.inj ((show Tryd.prog.funcNamed "pleach/pleachlaw16.ShelfPlays" = some 5 by kernel_rfl).symm.trans hf) |>.symm
      obtain rfl : fn = Tryd.f5 := (Option.some.inj (Tryd.func5.symm.trans hfn)).symm
      exact ⟨by kernel_rfl, fun j t ht => by
        rw [Tryd.params5] at ht
        rcases j with _ | _ | _ | j
        · obtain rfl : 36 = t := by simpa using ht
          exact (show Tryd.prog.wantsStandIn 36 = false by kernel_rfl)
        · obtain rfl : 9 = t := by simpa using ht
          exact (show Tryd.prog.wantsStandIn 9 = false by kernel_rfl)
        · obtain rfl : 3 = t := by simpa using ht
          exact (show Tryd.prog.wantsStandIn 3 = false by kernel_rfl)
        · simp at ht⟩)
    (by kernel_rfl)
theorem proved : Rows.ShelfPlaysCardSaid := card
#print axioms proved
end Go.Proofs.YtccekjebfafgcaaDoor.shelfPlays
namespace Go.Proofs.YtccekjebfafgcaaDoor
/-- The row, under a short name, for the claim. -/
theorem shelfPlays_holds : Rows.ShelfPlaysCardSaid := shelfPlays.proved
end Go.Proofs.YtccekjebfafgcaaDoor
