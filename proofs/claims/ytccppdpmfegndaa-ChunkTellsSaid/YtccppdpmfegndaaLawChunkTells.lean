-- Written by this session's own program (wip/tools/xrow.py): the row of the law pleachlaw19_ChunkTells, out of its Pure and its contract.
import Derived.Test.YtccppdpmfegndaaRows
import Derived.Test.YtccppdpmfegndaaEChunkTellsx8
import Derived.Test.YtccppdpmfegndaaPureChunkTells
import Derived.Test.YtccppdpmfegndaaMOpen
import Derived.WalkKit
import Derived.ProofKit
import Derived.OpenShut
import Derived.ShutString
import Derived.ChangeOld
import Derived.Below
import Derived.SizedLaws
namespace Go.Proofs.Ytccppdpmfegndaa.chunkTells
open Go.ChangeShapes Go.WideShapes Go.ChangeAt Go.RowKit Go.Proofs.Ytccppdpmfegndaa.EChunkTells Go.Proofs.YtccppdpmfegndaaW.PrintWords
open Go.ChangeMaps (open_string shut_string)
set_option linter.unusedVariables false
theorem own : ownKnob Try.prog.godebug = none := by kernel_rfl
theorem laidOut : laidOutB Try.prog = true := by kernel_rfl
theorem opn29 : M.Opn Try.prog 29 k29 Good29 :=
  M.opn_struct (fun x : S29 => (x.f0, x.f1)) (fun v => ⟨v.1, v.2⟩) (fun _ => rfl) Try.underlying29 (M.opnF_cons (by kernel_rfl) (M.opn_string (P := Try.prog) (t := 9) (by kernel_rfl)) (M.opnF_last (by kernel_rfl) (by kernel_rfl) (M.opn_string (P := Try.prog) (t := 9) (by kernel_rfl))))
set_option maxRecDepth 100000 in
theorem lifted (os : Os) (started : os.Started) (H : Type) (enc : TypeId × Value → H) :
    ReturnsInHanded {} Try.checked os 3 .any (Rows.chunkTellsSpec.pre6 enc Try.prog Try.f3 Rows.chunkTellsRow.domain false) (Rows.chunkTellsSpec.post enc Try.prog Try.f3 false true false false) := by
  refine returnsInHanded_of_change_sized (C := Try.checked) own started (by kernel_rfl) Try.func3
    (ChangeSpec.witness6 (enc := enc) (C := Try.checked) false ⟨#[], #[.agg #[.int .i64 0, .slice none 0 0, .slice none 0 0], .string ByteArray.empty, .string ByteArray.empty, .int .i64 0], []⟩ 8 (by kernel_rfl) (by kernel_rfl) (by kernel_rfl) (by kernel_rfl)) ?_
  intro W base args ds gs before hval0 hW hcnd hsz0 _
  have hsz : (DataW.weightsEach Try.prog (Try.f3.params.toList ++ Rows.chunkTellsSpec.plain.varTypes Try.prog) (ds ++ gs)).all (· ≤ reachBytes) = true := hsz0
  have hval : ∀ (j : Nat) t v, Try.f3.params[j]? = some t → args[j]? = some v → Value.okWide Try.prog W .any base t v := hval0
  have hW' := hW
  obtain ⟨p, q, hA0, hV, rfl, hfz, hnd⟩ := hW
  have hA : DataW.TrodAll enc Try.prog W 0 (fun _ => true) true Try.f3.params.toList args.toList ds p := hA0
  rw [Try.params3] at hA hval hsz
  obtain ⟨v0, vs0, d0, ds0, p0, q0, hargs, rfl, rfl, h0, r0⟩ := trodAll_cons hA
  obtain ⟨v1, vs1, d1, ds1, p1, q1, rfl, rfl, rfl, h1, r1⟩ := trodAll_cons r0
  obtain ⟨v2, vs2, d2, ds2, p2, q2, rfl, rfl, rfl, h2, r2⟩ := trodAll_cons r1
  obtain ⟨v3, vs3, d3, ds3, p3, q3, rfl, rfl, rfl, h3, r3⟩ := trodAll_cons r2
  obtain ⟨rfl, rfl, rfl⟩ := trodAll_nil r3
  obtain rfl : args = #[v0, v1, v2, v3] := by cases args; simp_all
  obtain ⟨rfl, rfl⟩ := trodVars_none hV
  obtain ⟨cs0, rfl, _⟩ := okWide_struct Try.underlying25 (hval 0 25 v0 rfl rfl)
  have k0 := h0
  have lt0 : ∀ x ∈ p0, x.block < W.heap.size := by obtain ⟨m, hm⟩ := k0; exact DataW.trod_lt m _ _ _ hm
  obtain ⟨fuel0, hf0⟩ := h0
  obtain ⟨⟨a0_0, ⟨l0_1, l0_2⟩⟩, hK0, ⟨g0_0, ⟨g0_1, g0_2⟩⟩⟩ := M.opn_tuple Try.underlying25 (M.opnF_cons (by kernel_rfl) (M.opn_int (P := Try.prog) (t := 3) (k := .i64) (by kernel_rfl)) (M.opnF_cons (by kernel_rfl) (M.opn_slice (P := Try.prog) (t := 22) (e := 29) (by kernel_rfl) (by kernel_rfl) opn29) (M.opnF_last (by kernel_rfl) (by kernel_rfl) (M.opn_slice (P := Try.prog) (t := 23) (e := 3) (by kernel_rfl) (by kernel_rfl) (M.opn_int (P := Try.prog) (t := 3) (k := .i64) (by kernel_rfl)))))) H enc W fuel0 _ _ hf0
  obtain ⟨x0_0, y0_0, hxy0_0, rfl, ⟨x0_1, y0_1, hxy0_1, ⟨A0_1, c0_1, rfl, hl0_1, hC0_1⟩, ⟨A0_2, c0_2, rfl, hl0_2, hC0_2⟩⟩⟩ := hK0
  subst hxy0_1
  obtain rfl : cs0 = #[.int .i64 a0_0, .slice A0_1 l0_1.length c0_1, .slice A0_2 l0_2.length c0_2] := Array.ext' hxy0_0
  obtain ⟨a1, rfl, rfl, rfl, y1⟩ := open_string Try.underlying9 (hval 1 9 v1 rfl rfl) h1
  have w1 : a1.size ≤ 140737488351232 := by
    have z := sized_string hsz (j := 1) (t := 9) rfl rfl
    rw [Array.length_toList] at z
    exact z
  obtain ⟨a2, rfl, rfl, rfl, y2⟩ := open_string Try.underlying9 (hval 2 9 v2 rfl rfl) h2
  have w2 : a2.size ≤ 140737488351232 := by
    have z := sized_string hsz (j := 2) (t := 9) rfl rfl
    rw [Array.length_toList] at z
    exact z
  obtain ⟨a3, rfl, rfl, rfl, w3⟩ := open_int Try.underlying3 (hval 3 3 v3 rfl rfl) h3
  clear hA0 hval0 hsz0 hsz
  obtain ⟨k, hk⟩ := Pure.ChunkTells a0_0 l0_1 l0_2 a1 a2 a3 g0_0 g0_1 g0_2 w1 w2 w3
  refine (pleachlaw19_ChunkTells.calls (k := k) (a0_0 := a0_0) (l0_1 := l0_1) (l0_2 := l0_2) (a1 := a1) (a2 := a2) (a3 := a3) (r := true) (w := W) (hr0_1 := hC0_1) (hc0_1 := hl0_1) (hr0_2 := hC0_2) (hc0_2 := hl0_2) (h := hk)).mono fun e W' ⟨he, bel0⟩ => ?_
  have bel : Below W.heap.size W W' := bel0
  subst he
  exact ⟨_, rfl, _, _, _, [], _, [], hW', trodAll_mk1 (shut_bool Try.underlying4 _), (trodAll_cons_mk (Below.trod laidOut (by kernel_rfl) (of_decide_eq_true (by kernel_rfl)) k0 bel lt0) (trodAll_cons_mk (shut_string Try.underlying9 y1) (trodAll_cons_mk (shut_string Try.underlying9 y2) (trodAll_cons_mk (shut_int Try.underlying3 w3) trodAll_mk0)))), rfl, bel.frame _, fun h => by cases h⟩
theorem over : Rows.chunkTellsRow.holds Try.pinned (OpenSpec.ofChange Rows.chunkTellsSpec) :=
  OpenClaim.holds_of_wide 3 Try.f3 rfl rfl rfl rfl rfl rfl rfl ⟨rfl, rfl, rfl, rfl, rfl⟩ rfl rfl rfl rfl rfl (by kernel_rfl) Try.func3 (by kernel_rfl)
    (of_decide_eq_true (by kernel_rfl)) (by unfold Func.isWrapper; first | (rw [if_pos (by decide +kernel)]; kernel_rfl) | (rw [if_neg (by decide +kernel)]; exact ⟨rfl, rfl⟩))
    (fun os started H enc _ => lifted os started H enc)
theorem proved : Rows.ChunkTellsSaid := over
#print axioms proved
end Go.Proofs.Ytccppdpmfegndaa.chunkTells
namespace Go.Proofs.Ytccppdpmfegndaa
/-- The row, under a short name, for the claim. -/
theorem chunkTells_holds : Rows.ChunkTellsSaid := chunkTells.proved
end Go.Proofs.Ytccppdpmfegndaa
