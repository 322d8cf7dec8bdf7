/- The law CommitKnots. No further condition: what the walk shows is the law itself. -/
-- Laid by this session's own program (wip/tools/fold.py): this session's texts, cut to what the claim names and put together; Lean checks it.
import Derived.Test.YtikdbklmhjlfoaaDoorUCommitKnots1
import Derived.Test.YtikdbklmhjlfoaaDoorVCommitKnots15
import Derived.Test.YtikdbklmhjlfoaaDoorXCommitKnots1
import Derived.ChangeArms
import Derived.Deep.Slices
import Derived.WideShapes
import Derived.OpenShut
import Derived.Test.YtikdbklmhjlfoaaDoorRows
import Derived.WalkKit
import Derived.ProofKit
import Derived.ShutString
import Derived.ChangeOld
import Derived.Below
import Derived.SizedLaws
import Derived.Test.YtikdbklmhjlfoaaDoorTie
import Derived.Test.YtikdbklmhjlfoaaDoorCards
import Derived.LaidLaws
import Derived.LaidMore
import Derived.Lib.LaidTab
import Derived.Stop.Joined
import Derived.SevenTiedAt
namespace Go.Proofs.YtikdbklmhjlfoaaDoor.M
open Go.RowKit Go.ChangeShapes Go.WideShapes Go.Proofs.YtikdbklmhjlfoaaDoorW.PrintWords Go.Proofs.YtikdbklmhjlfoaaDoorW.PrintMore
def Opn {α : Type} (P : Program) (t : TypeId) (d : Kd α) (G : α → Prop) : Prop :=
  ∀ (H : Type) (enc : TypeId × Value → H) (w : World) (fuel : Nat) (cs : List Value) (x : DataW H × List MemPlace), DataW.trod enc P w 0 (fun _ => true) true fuel t cs = some x → ∃ v : α, d.K w v cs ∧ G v
theorem opn_string {P : Program} {t : TypeId} (ht : P.underlying t = some .string) : Opn P t Kd.string (fun s => s.size ≤ 9223372036854775807) := by
 intro H enc w fuel cs x h
 obtain ⟨s, rfl, _, hs⟩ := DataW.trod_string ht h
 exact ⟨s, rfl, hs⟩
theorem cells_at {w : World} {base n : Nat} {a : Addr} {cs : List Value} (h : w.cells? base a n = some cs) : cs.length = n ∧ ∀ i u, cs[i]? = some u → w.cell? (a.add i) = some u := by
 obtain ⟨_, h2, h3⟩ := World.cells?_some h
 refine ⟨h2, fun i u hu => ?_⟩
 have hi := (List.getElem?_eq_some_iff.1 hu).1
 rw [h3 i (by omega), hu]
theorem opn_slice {α : Type} {P : Program} {t e : TypeId} {d : Kd α} {G : α → Prop} (ht : P.underlying t = some (.slice e)) (hc : P.cellsOf e = d.sz) (he : Opn P e d G) :
    Opn P t (Kd.slice e d) (fun l => (∀ x ∈ l, G x) ∧ l.length ≤ 9223372036854775807) := by
 intro H enc w fuel cs x h
 rcases Deep.open_slice ht h with ⟨rfl, _⟩ | ⟨a, len, cap, m, n, D, Pl, rfl, _, hl, hm, hmm, hxx, hx⟩
 ·refine ⟨[], ⟨none, 0, rfl, Nat.le_refl _, rfl, Nat.zero_le _, fun h => absurd h (Nat.lt_irrefl _)⟩, fun x hx => absurd hx List.not_mem_nil, Nat.zero_le _⟩
 ·have hcap : len ≤ 9223372036854775807 := Nat.le_trans hl hm
  have hlm : len ≤ m := by rw [hmm]; simpa using hl
  have hv : ∀ i, i < len → ∃ v : α, (∃ c, c.length = d.sz ∧ d.K w v c ∧ ∀ j u, c[j]? = some u → w.cell? (a.add (i * d.sz + j)) = some u) ∧ G v := by
   intro i hi
   obtain ⟨cs', h1, h2⟩ := hx i (Nat.lt_of_lt_of_le hi hlm)
   obtain ⟨v, hk, hg⟩ := he H enc w n cs' _ h2
   obtain ⟨_, h4⟩ := cells_at h1
   refine ⟨v, ⟨cs', d.K_len hk, hk, fun j u hu => ?_⟩, hg⟩
   have := h4 j u hu
   rwa [Deep.add_add, hc] at this
  obtain ⟨l, hll, hlp⟩ : ∃ l : List α, l.length = len ∧ ∀ i v, l[i]? = some v → (∃ c, c.length = d.sz ∧ d.K w v c ∧ ∀ j u, c[j]? = some u → w.cell? (a.add (i * d.sz + j)) = some u) ∧ G v := by
   clear hmm hx hlm hcap hl h hxx
   induction len with
   | zero => exact ⟨[], rfl, fun i v h => by simp at h⟩
   | succ len ih =>
    obtain ⟨l, h1, h2⟩ := ih (fun i hi => hv i (Nat.lt_succ_of_lt hi))
    obtain ⟨v, h3⟩ := hv len (Nat.lt_succ_self _)
    refine ⟨l ++ [v], by simp [h1], fun i u hu => ?_⟩
    rcases Nat.lt_or_ge i l.length with hlt | hge
    ·rw [List.getElem?_append_left hlt] at hu
     exact h2 i u hu
    ·rw [List.getElem?_append_right hge] at hu
     have hi0 : i - l.length = 0 := by
      by_cases e : i - l.length = 0
      ·exact e
      ·rw [List.getElem?_eq_none (by simp; omega)] at hu; cases hu
     rw [hi0] at hu
     have e2 : v = u := by simpa using hu
     have e3 : i = len := by omega
     rw [← e2, e3]
     exact h3
  refine ⟨l, ⟨some a, cap, by rw [hll], by rw [hll]; exact hl, rfl, by rw [hll]; exact hcap, fun _ => ⟨a, rfl, fun j p hj => (hlp j p hj).1⟩⟩, fun x hx => ?_, by rw [hll]; exact hcap⟩
  obtain ⟨i, hi⟩ := List.getElem?_of_mem hx
  exact (hlp i x hi).2
end Go.Proofs.YtikdbklmhjlfoaaDoor.M
namespace Go.Proofs.YtikdbklmhjlfoaaDoor.Pure
open Go.RowKit Go.Proofs.YtikdbklmhjlfoaaDoor.ECommitKnots Go.Proofs.YtikdbklmhjlfoaaDoorW.PrintWords Go.Proofs.YtikdbklmhjlfoaaDoorW.PrintLast Go.Proofs.YtikdbklmhjlfoaaDoorW.PrintMore
theorem CommitKnots : pleachlaw35_CommitKnots.Pure := fun _ _ _ _ => rfl
end Go.Proofs.YtikdbklmhjlfoaaDoor.Pure
namespace Go.Proofs.YtikdbklmhjlfoaaDoor.commitKnots
open Go.ChangeShapes Go.WideShapes Go.ChangeAt Go.RowKit Go.Proofs.YtikdbklmhjlfoaaDoor.ECommitKnots Go.Proofs.YtikdbklmhjlfoaaDoorW.PrintWords
open Go.ChangeMaps (open_string shut_string)
set_option linter.unusedVariables false
theorem own : ownKnob Tryd.prog.godebug = none := by kernel_rfl
theorem laidOut : laidOutB Tryd.prog = true := by kernel_rfl
theorem door_met (os : Os) (args : Array Value) : laidMetH Tryd.prog [("pleach/sha.first", Rows.laid_pleach_sha_first), ("pleach/sha.constants", Rows.laid_pleach_sha_constants)] ((World.doorLaid Tryd.prog 19 os).forCall (fun _ _ => 0) ⟨#[], args, []⟩).memory :=
  laidMetH_of_parts3 (fuel := 8) (laidMet_of_run' 8 (by kernel_rfl) (by kernel_rfl)) (by kernel_rfl) (by kernel_rfl)
set_option maxRecDepth 100000 in
theorem lifted (os : Os) (started : os.Started) (H : Type) (enc : TypeId × Value → H) :
    ReturnsInHanded {} Tryd.checked os 6 .any (fun w args => (Rows.commitKnotsSpec.pre enc Tryd.prog Tryd.f6 Rows.commitKnotsRow.domain false w args ∧ laidMetH Tryd.prog [("pleach/sha.first", Rows.laid_pleach_sha_first), ("pleach/sha.constants", Rows.laid_pleach_sha_constants)] w) ∧ sizedMet enc Tryd.prog Tryd.f6 (OpenSpec.ofChange Rows.commitKnotsSpec) false w args) (Rows.commitKnotsSpec.post enc Tryd.prog Tryd.f6 false true false false) := by
  refine returnsInHanded_of_change_and (C := Tryd.checked) (X := fun w _ => laidMetH Tryd.prog [("pleach/sha.first", Rows.laid_pleach_sha_first), ("pleach/sha.constants", Rows.laid_pleach_sha_constants)] w) (fun _ _ _ hh h => h.of_heap hh) own started (by kernel_rfl) Tryd.func6
    (ChangeSpec.witness_shaped (enc := enc) (C := Tryd.checked) (os := os) (X := fun w _ => laidMetH Tryd.prog [("pleach/sha.first", Rows.laid_pleach_sha_first), ("pleach/sha.constants", Rows.laid_pleach_sha_constants)] w) false (World.doorLaid Tryd.prog 19 os) #[.slice none 0 0, .slice none 0 0] 8 rfl (World.shaped_of_RefB (by kernel_rfl) (by kernel_rfl)) (by kernel_rfl) (by kernel_rfl) (by kernel_rfl) (door_met os _)) ?_
  intro W base args ds gs before hval0 hW hcnd hsz0 hL0 _
  have hL := hL0
  rw [MakeChecks.laidMetH_plain _ _ _ (by kernel_rfl)] at hL
  have hL2 : laidMet Tryd.prog [("pleach/sha.first", Lib.tabData .u32 (M.nums32 M.shaH)), ("pleach/sha.constants", Lib.tabData .u32 (M.nums32 M.shaK))] W := hL
  have hT1 := Lib.tabIs_of_head (g := 0) (t := 121) (e := 116) (n := 8) (by kernel_rfl) (by kernel_rfl) (by kernel_rfl) (by kernel_rfl) (by kernel_rfl) (by kernel_rfl) hL2
  have hL3 : laidMet Tryd.prog [("pleach/sha.constants", Lib.tabData .u32 (M.nums32 M.shaK))] W := by
    obtain ⟨ps, ⟨g_, t_, cs, fuel, p, q, _, _, _, _, hr, rfl⟩, hn, hc⟩ := hL2
    exact ⟨q, hr, (List.nodup_append.1 hn).2.1, fun b off hb => hc b off (List.mem_append_right _ hb)⟩
  have hT2 := Lib.tabIs_of_head (g := 1) (t := 129) (e := 116) (n := 64) (by kernel_rfl) (by kernel_rfl) (by kernel_rfl) (by kernel_rfl) (by kernel_rfl) (by kernel_rfl) hL3
  have hTab : M.stab W := ⟨fun i hi => by
    have key : ∀ j : Fin 8, (M.nums32 M.shaH).getD j.val 0 = ((M.shaH.getD j.val 0 : Nat) : Int) := by decide
    have := hT1.cell (g := 0) (by kernel_rfl) i (by exact hi)
    rw [key ⟨i, hi⟩] at this
    exact this, fun i hi => by
    have key : ∀ j : Fin 64, (M.nums32 M.shaK).getD j.val 0 = ((M.shaK.getD j.val 0 : Nat) : Int) := by decide +kernel
    have := hT2.cell (g := 1) (by kernel_rfl) i (by exact hi)
    rw [key ⟨i, hi⟩] at this
    exact this⟩
  clear hL hL2 hL3 hT1 hT2
  have hsz : (DataW.weightsEach Tryd.prog (Tryd.f6.params.toList ++ Rows.commitKnotsSpec.plain.varTypes Tryd.prog) (ds ++ gs)).all (· ≤ reachBytes) = true := hsz0
  have hval : ∀ (j : Nat) t v, Tryd.f6.params[j]? = some t → args[j]? = some v → Value.okWide Tryd.prog W .any base t v := hval0
  have hW' := hW
  obtain ⟨p, q, hA0, hV, rfl, hfz, hnd⟩ := hW
  have hA : DataW.TrodAll enc Tryd.prog W 0 (fun _ => true) true Tryd.f6.params.toList args.toList ds p := hA0
  rw [Tryd.params6] at hA hval hsz
  obtain ⟨v0, vs0, d0, ds0, p0, q0, hargs, rfl, rfl, h0, r0⟩ := trodAll_cons hA
  obtain ⟨v1, vs1, d1, ds1, p1, q1, rfl, rfl, rfl, h1, r1⟩ := trodAll_cons r0
  obtain ⟨rfl, rfl, rfl⟩ := trodAll_nil r1
  obtain rfl : args = #[v0, v1] := by cases args; simp_all
  obtain ⟨rfl, rfl⟩ := trodVars_none hV
  obtain ⟨q_a0, q_len0, q_cap0, rfl⟩ := okWide_slice Tryd.underlying22 (hval 0 22 v0 rfl rfl)
  have k0 := h0
  have lt0 : ∀ x ∈ p0, x.block < W.heap.size := by obtain ⟨m, hm⟩ := k0; exact DataW.trod_lt m _ _ _ hm
  obtain ⟨fuel0, hf0⟩ := h0
  obtain ⟨l0, ⟨A0, c0, e0, hl0, hC0⟩, hG0⟩ := (M.opn_slice (P := Tryd.prog) (t := 22) (e := 9) (by kernel_rfl) (by kernel_rfl) (M.opn_string (P := Tryd.prog) (t := 9) (by kernel_rfl))) H enc W fuel0 _ _ hf0
  simp only [Value.cells, List.cons.injEq, Value.slice.injEq, and_true] at e0
  obtain ⟨rfl, rfl, rfl⟩ := e0
  obtain ⟨q_a1, q_len1, q_cap1, rfl⟩ := okWide_slice Tryd.underlying22 (hval 1 22 v1 rfl rfl)
  have k1 := h1
  have lt1 : ∀ x ∈ p1, x.block < W.heap.size := by obtain ⟨m, hm⟩ := k1; exact DataW.trod_lt m _ _ _ hm
  obtain ⟨fuel1, hf1⟩ := h1
  obtain ⟨l1, ⟨A1, c1, e1, hl1, hC1⟩, hG1⟩ := (M.opn_slice (P := Tryd.prog) (t := 22) (e := 9) (by kernel_rfl) (by kernel_rfl) (M.opn_string (P := Tryd.prog) (t := 9) (by kernel_rfl))) H enc W fuel1 _ _ hf1
  simp only [Value.cells, List.cons.injEq, Value.slice.injEq, and_true] at e1
  obtain ⟨rfl, rfl, rfl⟩ := e1
  clear hA0 hval0 hsz0 hsz
  have hk := Pure.CommitKnots l0 l1 hG0 hG1
  refine (pleachlaw35_CommitKnots.calls (l0 := l0) (l1 := l1) (r := true) (w := W) (hr0 := hC0) (hc0 := hl0) (hr1 := hC1) (hc1 := hl1) (h := hk) (hT := hTab)).mono fun e W' ⟨he, bel0⟩ => ?_
  have bel : Below W.heap.size W W' := bel0
  subst he
  exact ⟨_, rfl, _, _, _, [], _, [], hW', trodAll_mk1 (shut_bool Tryd.underlying4 _), (trodAll_cons_mk (Below.trod laidOut (by kernel_rfl) (of_decide_eq_true (by kernel_rfl)) k0 bel lt0) (trodAll_cons_mk (Below.trod laidOut (by kernel_rfl) (of_decide_eq_true (by kernel_rfl)) k1 bel lt1) trodAll_mk0)), rfl, bel.frame _, fun h => by cases h⟩
theorem over : Rows.commitKnotsRow.holds Tryd.pinned (OpenSpec.ofChange Rows.commitKnotsSpec) :=
  OpenClaim.holds_of_wide 6 Tryd.f6 rfl rfl rfl rfl rfl rfl rfl ⟨rfl, rfl, rfl, rfl, rfl⟩ rfl rfl rfl rfl rfl (by kernel_rfl) Tryd.func6 (by kernel_rfl)
    (of_decide_eq_true (by kernel_rfl)) (by unfold Func.isWrapper; first | (rw [if_pos (by decide +kernel)]; kernel_rfl) | (rw [if_neg (by decide +kernel)]; exact ⟨rfl, rfl⟩))
    (fun os started H enc _ => lifted os started H enc)
theorem card : Rows.CommitKnotsCardSaid :=
  Claim7.holds_tied_plain_at .later [] [.data, .data] true (true, "03aaf8c9be8e3f365ded211e5c81515a1d6abb5e0a4f8fb6a2f449acb5df7b04") false
    over (fun _ h => by cases h) (by kernel_rfl) (fun _ h => by cases h) commitKnots_row_tie rfl ⟨rfl, rfl⟩ (by kernel_rfl) rfl
    (fun f fn hf hfn => by
      obtain rfl : f = 6 := Option.some.inj ((show Tryd.prog.funcNamed "pleach/pleachlaw35.CommitKnots" = some 6 by kernel_rfl).symm.trans hf) |>.symm
      obtain rfl : fn = Tryd.f6 := (Option.some.inj (Tryd.func6.symm.trans hfn)).symm
      exact ⟨by kernel_rfl, fun j t ht => by
        rw [Tryd.params6] at ht
        rcases j with _ | _ | j
        · obtain rfl : 22 = t := by simpa using ht
          exact (show Tryd.prog.wantsStandIn 22 = false by kernel_rfl)
        · obtain rfl : 22 = t := by simpa using ht
          exact (show Tryd.prog.wantsStandIn 22 = false by kernel_rfl)
        · simp at ht⟩)
    (by kernel_rfl)
theorem proved : Rows.CommitKnotsCardSaid := card
#print axioms proved
end Go.Proofs.YtikdbklmhjlfoaaDoor.commitKnots
namespace Go.Proofs.YtikdbklmhjlfoaaDoor
theorem commitKnots_holds : Rows.CommitKnotsCardSaid := commitKnots.proved
end Go.Proofs.YtikdbklmhjlfoaaDoor
