-- Written by this session's own program (wip/tools/ext.py) for this claim; Lean checks it.
import Derived.Test.YtadpicphohobbaaEDeltaTakesx0
import Derived.Test.YtadpicphohobbaaEDeltaTakesx5
import Derived.Test.YtadpicphohobbaaEDeltaTakesx7
namespace Go.Proofs.Ytadpicphohobbaa.EDeltaTakes
open Go.RowKit Go.Proofs.YtadpicphohobbaaW.PrintWords Go.Proofs.YtadpicphohobbaaW.PrintLast Go.Proofs.YtadpicphohobbaaW.PrintMore
attribute [local go_sem] M.run_leq M.run_gtr M.run_geq max2_int min2_int max_two min_two max_three min_three max_four min_four   -- for this text's walks alone
set_option linter.unusedVariables false
set_option linter.unusedSimpArgs false

/-! ### pleachref04_Fix_p: function 37 -/
def pleachref04_Fix_p.f (a0_0 : ByteArray) (a0_1 : Int) (a0_2 : Int) (a1 : Int) : Option (ByteArray × Int × Int × ByteArray) := (pleachref04_fix.f a0_0 a0_1 a0_2 a1).bind fun bt213 => (some (bt213.1, bt213.2.1, bt213.2.2.1, bt213.2.2.2))
set_option maxHeartbeats 8000000 in
set_option maxRecDepth 100000 in
theorem pleachref04_Fix_p.calls (a0_0 : ByteArray) (a0_1 : Int) (a0_2 : Int) (a1 : Int) (r1 : ByteArray) (r2 : Int) (r3 : Int) (r4 : ByteArray) (w : World) (h : pleachref04_Fix_p.f a0_0 a0_1 a0_2 a1 = some (r1, r2, r3, r4)) :
    Calls Try.prog 37 #[.agg #[.string a0_0, .int .i64 a0_1, .int .i64 a0_2], .int .i64 a1] w fun e w' => e = .returned (.tuple #[.agg #[.string r1, .int .i64 r2, .int .i64 r3], .string r4]) ∧ Below w.heap.size w w' := by
  have hu62 := Try.underlying62
  have HB := Aside0.mk (Below.refl w.heap.size w)
  have H : ((pleachref04_fix.f a0_0 a0_1 a0_2 a1).bind fun bt213 => (some (bt213.1, bt213.2.1, bt213.2.2.1, bt213.2.2.2))) = some (r1, r2, r3, r4) := h
  clear h
  replace H := Option.bind_eq_some_iff.mp H
  obtain ⟨⟨t213, t214, t215, t216⟩, A30, H⟩ := H
  replace H : (some (t213, t214, t215, t216)) = some (r1, r2, r3, r4) := H
  have A3 := Aside0.mk A30
  clear A30
  simp only [Option.some.injEq, Prod.mk.injEq] at H
  obtain ⟨rfl, rfl, rfl, rfl⟩ := H
  go_enter Try.func37, Try.ntmps37
  go_wp2_with (first | ((with_reducible refine gate_dst (N := 2) rfl ?_); refine box_event ?hg (N := 2) ?hd (cs := #[.string a0_0, .int .i64 a0_1, .int .i64 a0_2]) (t := 62) ?hr ?_; (case hd => rfl); (case hg => rfl); (case hr => first | (go_simp; done) | (go_simp; rfl)); intro zaa hg w4 hbox hb; have n0_ := M.upS HB hb; have n1_ := Aside0.mk (hbox); have n2_ := M.upG HB hg; have n3_ := M.upG HB hg; clear HB; have HB := n0_; have zab := n1_; have zac := n2_; have zad := n3_; clear n0_ n1_ n2_ n3_; clear hb hbox hg) | ((with_reducible refine gate_dst (N := 4) rfl ?_); refine box_event ?hg (N := 4) ?hd (cs := #[.string (⟨#[]⟩ : ByteArray), .int .i64 0, .int .i64 0]) (t := 62) ?hr ?_; (case hd => rfl); (case hg => rfl); (case hr => first | (go_simp; done) | (go_simp; rfl)); intro zae hg w5 hbox hb; have n0_ := M.bkB zab hb; have n1_ := M.upS HB hb; have n2_ := Aside0.mk (hbox); have n3_ := M.upG HB hg; have n4_ := M.upG HB hg; have n5_ := M.bkL zab hg; have n6_ := M.bkG zab hg; clear zab HB; have zab := n0_; have HB := n1_; have zaf := n2_; have zag := n3_; have zah := n4_; have zai := n5_; have zaj := n6_; clear n0_ n1_ n2_ n3_ n4_ n5_ n6_; clear hb hbox hg; have zak := zai.out; have zal := zaj.out; obtain ⟨zam, zan, zao⟩ := M.bc3 (w := w5) (a := .string a0_0) (b := .int .i64 a0_1) (c := .int .i64 a0_2) zab.out; obtain ⟨zap, zaq, zar⟩ := M.bf3 zab) | ((with_reducible refine gate_callee (f := 44) rfl ?_); refine M.goes (some 8) Try.func44 #[.agg #[.string a0_0, .int .i64 a0_1, .int .i64 a0_2], .int .i64 a1] rfl ?_; (with_reducible refine (pleachref04_fix.calls a0_0 a0_1 a0_2 a1 t213 t214 t215 t216 _ A3.out).mono ?_); rintro e w8 ⟨rfl, hb⟩; refine ⟨_, rfl, ?_⟩; have n0_ := M.bkB zab hb; have n1_ := M.bkB zaf hb; have n2_ := M.upS HB hb; clear zab zaf HB; have zab := n0_; have zaf := n1_; have HB := n2_; clear n0_ n1_ n2_; (try clear hb); obtain ⟨zas, zat, zau⟩ := M.bc3 (w := w8) (a := .string (⟨#[]⟩ : ByteArray)) (b := .int .i64 0) (c := .int .i64 0) zaf.out; obtain ⟨zav, zaw, zax⟩ := M.bf3 zaf))
  refine bodyPost_ret (results_ct rfl _ _ zae 62 #[.string t213, .int .i64 t214, .int .i64 t215] (0, 0) _ rfl (by (with_reducible repeat (first | refine blk_drewN ?_ _ | refine blk_drew ?_ | refine blk_alloc ?_ _)); refine blk_put (cs := #[.string t213, .int .i64 t214, .int .i64 0]) ?_ 2 _ rfl; (with_reducible repeat (first | refine blk_drewN ?_ _ | refine blk_drew ?_ | refine blk_alloc ?_ _)); refine blk_put (cs := #[.string t213, .int .i64 0, .int .i64 0]) ?_ 1 _ rfl; (with_reducible repeat (first | refine blk_drewN ?_ _ | refine blk_drew ?_ | refine blk_alloc ?_ _)); refine blk_put (cs := #[.string (⟨#[]⟩ : ByteArray), .int .i64 0, .int .i64 0]) ?_ 0 _ rfl; (with_reducible repeat (first | refine blk_drewN ?_ _ | refine blk_drew ?_ | refine blk_alloc ?_ _)); exact zaf.out) Try.underlying62 rfl (by kernel_rfl)) rfl ?_
  exact M.fin (M.up HB)

-- this session's own plain form
def pleachref04_Fix.f (a0_0 : ByteArray) (a0_1 : Int) (a0_2 : Int) (a1 : Int) : Option (ByteArray × Int × Int × ByteArray) := pleachref04_fix.f a0_0 a0_1 a0_2 a1
theorem pleachref04_Fix.ev (s : ByteArray) (p er n : Int) (r : ByteArray × Int × Int × ByteArray) (h : pleachref04_Fix.f s p er n = some r) : pleachref04_Fix_p.f s p er n = some r := by
  unfold pleachref04_Fix.f at h
  unfold pleachref04_Fix_p.f
  rw [h]; rfl
theorem pleachref04_Fix.calls (a0_0 : ByteArray) (a0_1 : Int) (a0_2 : Int) (a1 : Int) (r1 : ByteArray) (r2 : Int) (r3 : Int) (r4 : ByteArray) (w : World) (h : pleachref04_Fix.f a0_0 a0_1 a0_2 a1 = some (r1, r2, r3, r4)) :
    Calls Try.prog 37 #[.agg #[.string a0_0, .int .i64 a0_1, .int .i64 a0_2], .int .i64 a1] w fun e w' => e = .returned (.tuple #[.agg #[.string r1, .int .i64 r2, .int .i64 r3], .string r4]) ∧ Below w.heap.size w w' := by
  exact pleachref04_Fix_p.calls (w := w) (h := pleachref04_Fix.ev _ _ _ _ _ h)

/-! ### pleachref11_Take_p: function 20 -/
mutual
def pleachref11_Take_p.l0 : Nat → ByteArray → List (S34) → ByteArray → Int → Int → Option ((List (S34)) × Bool)
  | 0, _, _, _, _, _ => none
  | k + 1, x0, x4, zay, zaz, zaA => if zaA = 0 then (pleachref11_Take_p.j1 k x0 x4 (decide (zaz < (x0.size : Int))) zay zaz zaA) else (pleachref11_Take_p.j1 k x0 x4 false zay zaz zaA)
def pleachref11_Take_p.j1 : Nat → ByteArray → List (S34) → Bool → ByteArray → Int → Int → Option ((List (S34)) × Bool)
  | 0, _, _, _, _, _, _ => none
  | k + 1, x0, x4, x20, zay, zaz, zaA => if x20 = true then ((pleachref04_Num.f zay zaz zaA 4294967295).bind fun bt218 => (if (Int.tmod bt218.2.2.2 2) = 1 then ((pleachref04_Num.f bt218.1 bt218.2.1 bt218.2.2.1 4294967295).bind fun bt224 => (pleachref11_Take_p.j2 k x0 x4 bt224.1 bt224.2.1 bt224.2.2.1 ((Int.tmod bt218.2.2.2 2) == 1) bt224.2.2.2 (wrap64 (Int.tdiv bt218.2.2.2 2)) (⟨#[]⟩ : ByteArray))) else ((pleachref04_Fix.f bt218.1 bt218.2.1 bt218.2.2.1 (wrap64 (Int.tdiv bt218.2.2.2 2))).bind fun bt228 => (pleachref11_Take_p.j2 k x0 x4 bt228.1 bt228.2.1 bt228.2.2.1 ((Int.tmod bt218.2.2.2 2) == 1) 0 (wrap64 (Int.tdiv bt218.2.2.2 2)) bt228.2.2.2)))) else (some (x4, (zaA == 0)))
def pleachref11_Take_p.j2 : Nat → ByteArray → List (S34) → ByteArray → Int → Int → Bool → Int → Int → ByteArray → Option ((List (S34)) × Bool)
  | 0, _, _, _, _, _, _, _, _, _ => none
  | k + 1, x0, x4, zay, zaz, zaA, zaB, zaC, zaD, zaE => if zaA = 0 then ((pleachref11_Is.f zaB zaC zaD zaE).bind fun t232 => (if t232 = true then (if x4.length < 3518437208883 then (pleachref11_Take_p.l0 k x0 (x4 ++ [(⟨zaB, zaC, zaD, zaE⟩ : S34)]) zay zaz zaA) else (none)) else (some (([] : List (S34)), false)))) else (some (([] : List (S34)), false))
end
def pleachref11_Take_p.f (k : Nat) (a0 : ByteArray) : Option ((List (S34)) × Bool) := pleachref11_Take_p.l0 k a0 ([] : List (S34)) a0 0 0
theorem pleachref11_Take_p.mono_l : ∀ k, (∀ y0 y1 y2 y3 y4, LeO (pleachref11_Take_p.l0 k y0 y1 y2 y3 y4) (pleachref11_Take_p.l0 (k + 1) y0 y1 y2 y3 y4)) ∧ (∀ y0 y1 y2 y3 y4 y5, LeO (pleachref11_Take_p.j1 k y0 y1 y2 y3 y4 y5) (pleachref11_Take_p.j1 (k + 1) y0 y1 y2 y3 y4 y5)) ∧ (∀ y0 y1 y2 y3 y4 y5 y6 y7 y8, LeO (pleachref11_Take_p.j2 k y0 y1 y2 y3 y4 y5 y6 y7 y8) (pleachref11_Take_p.j2 (k + 1) y0 y1 y2 y3 y4 y5 y6 y7 y8))
  | 0 => ⟨fun _ _ _ _ _ r h => by simp [pleachref11_Take_p.l0] at h, fun _ _ _ _ _ _ r h => by simp [pleachref11_Take_p.j1] at h, fun _ _ _ _ _ _ _ _ _ r h => by simp [pleachref11_Take_p.j2] at h⟩
  | k + 1 => by
    obtain ⟨ih0, ih1, ih2⟩ := pleachref11_Take_p.mono_l k
    refine ⟨?_, ?_, ?_⟩
    · intro y0 y1 y2 y3 y4
      unfold pleachref11_Take_p.l0
      repeat' first
      | (with_reducible exact ih0 _ _ _ _ _)
      | (with_reducible exact ih1 _ _ _ _ _ _)
      | (with_reducible exact ih2 _ _ _ _ _ _ _ _ _)
      | (with_reducible exact LeO.refl _)
      | (with_reducible exact LeO.none _)
      | (with_reducible refine LeO.ite ?_ ?_)
      | (with_reducible refine LeO.bind ?_ (fun _ => ?_))
      | exact ih0 _ _ _ _ _
      | exact ih1 _ _ _ _ _ _
      | exact ih2 _ _ _ _ _ _ _ _ _
      | exact LeO.none _
      | refine LeO.ite ?_ ?_
      | refine LeO.bind ?_ (fun _ => ?_)
    · intro y0 y1 y2 y3 y4 y5
      unfold pleachref11_Take_p.j1
      repeat' first
      | (with_reducible exact ih0 _ _ _ _ _)
      | (with_reducible exact ih1 _ _ _ _ _ _)
      | (with_reducible exact ih2 _ _ _ _ _ _ _ _ _)
      | (with_reducible exact LeO.refl _)
      | (with_reducible exact LeO.none _)
      | (with_reducible refine LeO.ite ?_ ?_)
      | (with_reducible refine LeO.bind ?_ (fun _ => ?_))
      | exact ih0 _ _ _ _ _
      | exact ih1 _ _ _ _ _ _
      | exact ih2 _ _ _ _ _ _ _ _ _
      | exact LeO.none _
      | refine LeO.ite ?_ ?_
      | refine LeO.bind ?_ (fun _ => ?_)
    · intro y0 y1 y2 y3 y4 y5 y6 y7 y8
      unfold pleachref11_Take_p.j2
      repeat' first
      | (with_reducible exact ih0 _ _ _ _ _)
      | (with_reducible exact ih1 _ _ _ _ _ _)
      | (with_reducible exact ih2 _ _ _ _ _ _ _ _ _)
      | (with_reducible exact LeO.refl _)
      | (with_reducible exact LeO.none _)
      | (with_reducible refine LeO.ite ?_ ?_)
      | (with_reducible refine LeO.bind ?_ (fun _ => ?_))
      | exact ih0 _ _ _ _ _
      | exact ih1 _ _ _ _ _ _
      | exact ih2 _ _ _ _ _ _ _ _ _
      | exact LeO.none _
      | refine LeO.ite ?_ ?_
      | refine LeO.bind ?_ (fun _ => ?_)
theorem pleachref11_Take_p.mono : ∀ a0 k, LeO (pleachref11_Take_p.f k a0) (pleachref11_Take_p.f (k + 1) a0) := by
  intro a0 k
  obtain ⟨ih0, ih1, ih2⟩ := pleachref11_Take_p.mono_l k
  unfold pleachref11_Take_p.f
  repeat' first
      | (with_reducible exact ih0 _ _ _ _ _)
      | (with_reducible exact ih1 _ _ _ _ _ _)
      | (with_reducible exact ih2 _ _ _ _ _ _ _ _ _)
      | (with_reducible exact LeO.refl _)
      | (with_reducible exact LeO.none _)
      | (with_reducible refine LeO.ite ?_ ?_)
      | (with_reducible refine LeO.bind ?_ (fun _ => ?_))
      | exact ih0 _ _ _ _ _
      | exact ih1 _ _ _ _ _ _
      | exact ih2 _ _ _ _ _ _ _ _ _
      | exact LeO.none _
      | refine LeO.ite ?_ ?_
      | refine LeO.bind ?_ (fun _ => ?_)
set_option maxHeartbeats 8000000 in
set_option maxRecDepth 100000 in
theorem pleachref11_Take_p.calls (k : Nat) (a0 : ByteArray) (r1 : List (S34)) (r2 : Bool) (w : World) (h : pleachref11_Take_p.f k a0 = some (r1, r2)) :
    Calls Try.prog 20 #[.string a0] w fun e w' => ∃ v0_ : Value, e = .returned (.tuple #[v0_, .bool r2]) ∧ Kd.R k34 34 w' w.heap.size (fun _ => True) v0_ r1 ∧ Below w.heap.size w w' := by
  have hu62 := Try.underlying62
  have hu34 := Try.underlying34
  have HB := Aside0.mk (Below.refl w.heap.size w)
  have H : (pleachref11_Take_p.l0 k a0 ([] : List (S34)) a0 0 0) = some (r1, r2) := h
  clear h
  have H' := Aside0.mk H
  clear H
  go_enter Try.func20, Try.ntmps20
  go_wp2_with (first | ((with_reducible refine gate_dst (N := 5) rfl ?_); (try (refine gate_guard (by rfl) ?_; dsimp only)); refine box_event ?hg (N := 5) ?hd (cs := #[.string (⟨#[]⟩ : ByteArray), .int .i64 0, .int .i64 0]) (t := 62) ?hr ?_; (case hd => rfl); (case hg => rfl); (case hr => first | (go_simp; done) | (go_simp; rfl)); intro zaF hg w2 hbox hb; have n0_ := M.upS HB hb; have n1_ := Aside0.mk (hbox); have n2_ := M.upG HB hg; have n3_ := M.upG HB hg; clear HB; have HB := n0_; have zaG := n1_; have zaH := n2_; have zaI := n3_; clear n0_ n1_ n2_ n3_; clear hb hbox hg; obtain ⟨zaJ, zaK, zaL⟩ := M.bc3 (w := w2) (a := .string (⟨#[]⟩ : ByteArray)) (b := .int .i64 0) (c := .int .i64 0) zaG.out; obtain ⟨zaM, zaN, zaO⟩ := M.bf3 zaG))
  repeat (go_quiet (first | ((with_reducible refine gate_dst (N := 5) rfl ?_); (try (refine gate_guard (by rfl) ?_; dsimp only)); refine box_event ?hg (N := 5) ?hd (cs := #[.string (⟨#[]⟩ : ByteArray), .int .i64 0, .int .i64 0]) (t := 62) ?hr ?_; (case hd => rfl); (case hg => rfl); (case hr => first | (go_simp; done) | (go_simp; rfl)); intro zaF hg w2 hbox hb; have n0_ := M.upS HB hb; have n1_ := Aside0.mk (hbox); have n2_ := M.upG HB hg; have n3_ := M.upG HB hg; clear HB; have HB := n0_; have zaG := n1_; have zaH := n2_; have zaI := n3_; clear n0_ n1_ n2_ n3_; clear hb hbox hg; obtain ⟨zaJ, zaK, zaL⟩ := M.bc3 (w := w2) (a := .string (⟨#[]⟩ : ByteArray)) (b := .int .i64 0) (c := .int .i64 0) zaG.out; obtain ⟨zaM, zaN, zaO⟩ := M.bf3 zaG)); try go_wp2_with (first | ((with_reducible refine gate_dst (N := 5) rfl ?_); (try (refine gate_guard (by rfl) ?_; dsimp only)); refine box_event ?hg (N := 5) ?hd (cs := #[.string (⟨#[]⟩ : ByteArray), .int .i64 0, .int .i64 0]) (t := 62) ?hr ?_; (case hd => rfl); (case hg => rfl); (case hr => first | (go_simp; done) | (go_simp; rfl)); intro zaF hg w2 hbox hb; have n0_ := M.upS HB hb; have n1_ := Aside0.mk (hbox); have n2_ := M.upG HB hg; have n3_ := M.upG HB hg; clear HB; have HB := n0_; have zaG := n1_; have zaH := n2_; have zaI := n3_; clear n0_ n1_ n2_ n3_; clear hb hbox hg; obtain ⟨zaJ, zaK, zaL⟩ := M.bc3 (w := w2) (a := .string (⟨#[]⟩ : ByteArray)) (b := .int .i64 0) (c := .int .i64 0) zaG.out; obtain ⟨zaM, zaN, zaO⟩ := M.bf3 zaG)))
  go_loopg [4] k (fun kq v4 w' => ∃ (x4_1 : List (S34)) (zaP : ByteArray) (zaQ : Int) (zaR : Int), Aside0 (pleachref11_Take_p.l0 kq a0 x4_1 zaP zaQ zaR = some (r1, r2)) ∧ Aside0 (kq ≤ k) ∧ Aside0 (Kd.R k34 34 w' w.heap.size (fun _ => True) v4 x4_1) ∧ Aside0 (w'.heap[zaF]? = some (.cells #[.string zaP, .int .i64 zaQ, .int .i64 zaR] 62 (0, 0))) ∧ Aside0 (Below w.heap.size w w'))
  case atStart => exact ⟨(([] : List (S34))), (a0), (0), (0), H', ⟨Nat.le_refl _⟩, ⟨by first | exact Kd.R_nil _ _ _ _ _ | exact Kd.N_nil _ _ _ _ _ | exact Kd.V_nil _ _ _ _ _ | exact Kd.Q_nil _ _ _ _ _ | exact Kd.S_nil _ _ _ _ _⟩, ⟨by (with_reducible repeat (first | refine blk_drewN ?_ _ | refine blk_drew ?_ | refine blk_alloc ?_ _)); refine blk_put (cs := #[.string a0, .int .i64 0, .int .i64 0]) ?_ 2 _ rfl; (with_reducible repeat (first | refine blk_drewN ?_ _ | refine blk_drew ?_ | refine blk_alloc ?_ _)); refine blk_put (cs := #[.string a0, .int .i64 0, .int .i64 0]) ?_ 1 _ rfl; (with_reducible repeat (first | refine blk_drewN ?_ _ | refine blk_drew ?_ | refine blk_alloc ?_ _)); refine blk_put (cs := #[.string (⟨#[]⟩ : ByteArray), .int .i64 0, .int .i64 0]) ?_ 0 _ rfl; (with_reducible repeat (first | refine blk_drewN ?_ _ | refine blk_drew ?_ | refine blk_alloc ?_ _)); exact zaG.out⟩, ⟨M.up HB⟩⟩
  case round =>
    clear H'
    try clear c2
    try clear p2
    try clear zaJ
    try clear zaK
    try clear zaL
    try clear zaM
    try clear zaN
    try clear zaO
    obtain ⟨x4_1, zaP, zaQ, zaR, HA, HK1, zaS, zaG, HB⟩ := hrel
    cases gk with
    | zero => exact absurd HA.out (by simp [pleachref11_Take_p.l0])
    | succ k1 =>
      have H := HA.out
      clear HA
      simp only [pleachref11_Take_p.l0] at H
      have HC4 := Aside0.mk H
      clear H
      go_upto_region 3 with (fail)
      repeat (go_quiet (fail); go_upto_region 3 with (fail))
      go_cut [20] (fun v20 wc => ∃ (kq : Nat) (x20_3 : Bool), v20 = .bool x20_3 ∧ Aside0 (pleachref11_Take_p.j1 kq a0 x4_1 x20_3 zaP zaQ zaR = some (r1, r2)) ∧ Aside0 (kq ≤ k1) ∧ Aside0 (Kd.R k34 34 wc w.heap.size (fun _ => True) u4 x4_1) ∧ Aside0 (wc.heap[zaF]? = some (.cells #[.string zaP, .int .i64 zaQ, .int .i64 zaR] 62 (0, 0))) ∧ Aside0 (Below w.heap.size w wc))
      case first =>
        have H := HC4.out
        clear HC4
        by_cases c5 : zaR = 0
        · rw [if_pos c5] at H
          have c5b0 : (zaR == 0) = true := beq_iff_eq.mpr c5
          have c5b1 : (zaR != 0) = false := bne_eq_false_iff_eq.mpr c5
          clear c5
          (first | rw [c5b0] | (simp only [i64_w, i32_w]; rw [c5b0]) | skip)
          have H' := Aside0.mk H
          clear H
          obtain ⟨zaT, zaU, zaV⟩ := M.bc3 (w := wr) (a := .string zaP) (b := .int .i64 zaQ) (c := .int .i64 zaR) zaG.out
          obtain ⟨zaW, zaX, zaY⟩ := M.bf3 zaG
          go_wp2
          repeat (go_quiet (fail); try go_wp2)
          go_meet
          case rel => exact ⟨_, (decide (zaQ < (a0.size : Int))), (by first | rfl | (simp; done) | (simp [*]; done) | (simp [M.isEmpty_bne]; done)), H', ⟨by have := HK1.out; first | omega | exact Nat.le_refl _⟩, ⟨by (with_reducible repeat (first | apply Kd.R_alloc | apply Kd.R_drewN | apply Kd.R_drew)); exact zaS.out⟩, ⟨by (with_reducible repeat (first | refine blk_drewN ?_ _ | refine blk_drew ?_ | refine blk_alloc ?_ _)); exact zaG.out⟩, ⟨M.up HB⟩⟩
        · rw [if_neg c5] at H
          have c5b0 : (zaR == 0) = false := beq_eq_false_iff_ne.mpr c5
          have c5b1 : (zaR != 0) = true := bne_iff_ne.mpr c5
          (first | rw [c5b0] | (simp only [i64_w, i32_w]; rw [c5b0]) | skip)
          have H' := Aside0.mk H
          clear H
          obtain ⟨zam, zan, zao⟩ := M.bc3 (w := wr) (a := .string zaP) (b := .int .i64 zaQ) (c := .int .i64 zaR) zaG.out
          obtain ⟨zap, zaq, zar⟩ := M.bf3 zaG
          go_wp2
          repeat (go_quiet (fail); try go_wp2)
          go_meet
          case rel => exact ⟨_, (false), (by first | rfl | (simp; done) | (simp [*]; done) | (simp [M.isEmpty_bne]; done)), H', ⟨by have := HK1.out; first | omega | exact Nat.le_refl _⟩, ⟨by (with_reducible repeat (first | apply Kd.R_alloc | apply Kd.R_drewN | apply Kd.R_drew)); exact zaS.out⟩, ⟨by (with_reducible repeat (first | refine blk_drewN ?_ _ | refine blk_drew ?_ | refine blk_alloc ?_ _)); exact zaG.out⟩, ⟨M.up HB⟩⟩
      case rest =>
        clear HC4
        try clear c2
        try clear p2
        try clear c5
        try clear c5b0
        try clear c5b1
        try clear zaJ
        try clear zaK
        try clear zaL
        try clear zaT
        try clear zaU
        try clear zaV
        try clear zam
        try clear zan
        try clear zao
        try clear zaM
        try clear zaN
        try clear zaO
        try clear zaW
        try clear zaX
        try clear zaY
        try clear zap
        try clear zaq
        try clear zar
        try clear p2
        obtain ⟨kq, x20_3, rfl, HA, HJ3, zaS, zaG, HB⟩ := hcut
        cases kq with
        | zero => exact absurd HA.out (by simp [pleachref11_Take_p.j1])
        | succ kj3 =>
          have H := HA.out
          clear HA
          simp only [pleachref11_Take_p.j1] at H
          by_cases c8 : x20_3 = true
          · subst c8
            have H1 : ((pleachref04_Num.f zaP zaQ zaR 4294967295).bind fun bt218 => (if (Int.tmod bt218.2.2.2 2) = 1 then ((pleachref04_Num.f bt218.1 bt218.2.1 bt218.2.2.1 4294967295).bind fun bt224 => (pleachref11_Take_p.j2 kj3 a0 x4_1 bt224.1 bt224.2.1 bt224.2.2.1 ((Int.tmod bt218.2.2.2 2) == 1) bt224.2.2.2 (wrap64 (Int.tdiv bt218.2.2.2 2)) (⟨#[]⟩ : ByteArray))) else ((pleachref04_Fix.f bt218.1 bt218.2.1 bt218.2.2.1 (wrap64 (Int.tdiv bt218.2.2.2 2))).bind fun bt228 => (pleachref11_Take_p.j2 kj3 a0 x4_1 bt228.1 bt228.2.1 bt228.2.2.1 ((Int.tmod bt218.2.2.2 2) == 1) 0 (wrap64 (Int.tdiv bt218.2.2.2 2)) bt228.2.2.2)))) = some (r1, r2) := by rw [if_pos rfl] at H; exact H
            clear H
            have H := H1
            clear H1
            replace H := Option.bind_eq_some_iff.mp H
            obtain ⟨⟨t218, t219, t220, t221⟩, A90, H⟩ := H
            replace H : (if (Int.tmod t221 2) = 1 then ((pleachref04_Num.f t218 t219 t220 4294967295).bind fun bt224 => (pleachref11_Take_p.j2 kj3 a0 x4_1 bt224.1 bt224.2.1 bt224.2.2.1 ((Int.tmod t221 2) == 1) bt224.2.2.2 (wrap64 (Int.tdiv t221 2)) (⟨#[]⟩ : ByteArray))) else ((pleachref04_Fix.f t218 t219 t220 (wrap64 (Int.tdiv t221 2))).bind fun bt228 => (pleachref11_Take_p.j2 kj3 a0 x4_1 bt228.1 bt228.2.1 bt228.2.2.1 ((Int.tmod t221 2) == 1) 0 (wrap64 (Int.tdiv t221 2)) bt228.2.2.2))) = some (r1, r2) := H
            have A9 := Aside0.mk A90
            clear A90
            have HC10 := Aside0.mk H
            clear H
            obtain ⟨zaZ, za0, za1⟩ := M.bc3 (w := wc) (a := .string zaP) (b := .int .i64 zaQ) (c := .int .i64 zaR) zaG.out
            obtain ⟨za2, za3, za4⟩ := M.bf3 zaG
            go_upto_if 34 with (first | (go_at_call 36; (with_reducible refine (pleachref04_Num.calls zaP zaQ zaR 4294967295 t218 t219 t220 t221 _ A9.out).mono ?_); rintro e w12 ⟨rfl, hb⟩; have n0_ := M.roB zaS hb; have n1_ := M.bkB zaG hb; have n2_ := M.upS HB hb; clear zaS zaG HB; have zaS := n0_; have zaG := n1_; have HB := n2_; clear n0_ n1_ n2_; (try clear hb); (try clear hb2); (try clear hk); (try clear hi)) | ((with_reducible refine gate_dst (N := 6) rfl ?_); (try (refine gate_guard (by rfl) ?_; dsimp only)); refine box_event ?hg (N := 6) ?hd (cs := #[.string (⟨#[]⟩ : ByteArray), .int .i64 0, .int .i64 0]) (t := 62) ?hr ?_; (case hd => rfl); (case hg => rfl); (case hr => first | (go_simp; done) | (go_simp; rfl)); intro za5 hg w13 hbox hb; have n0_ := M.roB zaS hb; have n1_ := M.bkB zaG hb; have n2_ := M.upS HB hb; have n3_ := Aside0.mk (hbox); have n4_ := M.upG HB hg; have n5_ := M.upG HB hg; have n6_ := M.bkL zaG hg; have n7_ := M.bkG zaG hg; clear zaS zaG HB; have zaS := n0_; have zaG := n1_; have HB := n2_; have za6 := n3_; have za7 := n4_; have za8 := n5_; have za9 := n6_; have zba := n7_; clear n0_ n1_ n2_ n3_ n4_ n5_ n6_ n7_; clear hb hbox hg; have zbb := zba.out; have zbc := za9.out; obtain ⟨zbd, zbe, zbf⟩ := M.bc3 (w := w13) (a := .string (⟨#[]⟩ : ByteArray)) (b := .int .i64 0) (c := .int .i64 0) za6.out; obtain ⟨zbg, zbh, zbi⟩ := M.bf3 za6; obtain ⟨zbj, zbk, zbl⟩ := M.bc3 (w := w13) (a := .string zaP) (b := .int .i64 zaQ) (c := .int .i64 zaR) zaG.out; obtain ⟨zbm, zbn, zbo⟩ := M.bf3 zaG) | ((with_reducible refine gate_dst (N := 8) rfl ?_); (try (refine gate_guard (by rfl) ?_; dsimp only)); refine box_event ?hg (N := 8) ?hd (cs := #[.bool false, .int .i64 0, .int .i64 0, .string (⟨#[]⟩ : ByteArray)]) (t := 34) ?hr ?_; (case hd => rfl); (case hg => rfl); (case hr => first | (go_simp; done) | (go_simp; rfl)); intro zbp hg w17 hbox hb; have n0_ := Aside0.mk (Kd.R_below (Kd.R_elderB (by (with_reducible repeat (first | apply Kd.R_alloc | apply Kd.R_drewN | apply Kd.R_drew)); exact (Kd.R_mono (Kd.R_mono (Kd.R_far (p := ⟨zaF, 2, none⟩) (Kd.R_far (p := ⟨zaF, 1, none⟩) (Kd.R_far (p := ⟨zaF, 0, none⟩) (Kd.R_far (p := ⟨za5, 2, none⟩) (Kd.R_far (p := ⟨za5, 1, none⟩) (Kd.R_far (p := ⟨za5, 0, none⟩) (Kd.R_types (Kd.R_types zaS.out za6.out (by decide)) zaG.out (by decide)) (fun _ hk => hk.1.2) (.string t218)) (fun _ hk => hk.1.2) (.int .i64 t219)) (fun _ hk => hk.1.2) (.int .i64 t220)) (fun _ hk => hk.2) (.string t218)) (fun _ hk => hk.2) (.int .i64 t219)) (fun _ hk => hk.2) (.int .i64 t220)) (fun _ h_ => h_.1)) (fun _ h_ => h_.1))) zbp (Nat.le_of_eq hg.symm)) hb); have n1_ := Aside0.mk (blk_below (g := zaF) (o := .cells #[.string t218, .int .i64 t219, .int .i64 t220] 62 (0, 0)) (by (with_reducible repeat (first | refine blk_drewN ?_ _ | refine blk_drew ?_ | refine blk_alloc ?_ _)); refine blk_put (cs := #[.string t218, .int .i64 t219, .int .i64 zaR]) ?_ 2 _ rfl; (with_reducible repeat (first | refine blk_drewN ?_ _ | refine blk_drew ?_ | refine blk_alloc ?_ _)); refine blk_put (cs := #[.string t218, .int .i64 zaQ, .int .i64 zaR]) ?_ 1 _ rfl; (with_reducible repeat (first | refine blk_drewN ?_ _ | refine blk_drew ?_ | refine blk_alloc ?_ _)); refine blk_put (cs := #[.string zaP, .int .i64 zaQ, .int .i64 zaR]) ?_ 0 _ rfl; (with_reducible repeat (first | refine blk_drewN ?_ _ | refine blk_drew ?_ | refine blk_alloc ?_ _)); refine blk_far ?_ za9.out _; (with_reducible repeat (first | refine blk_drewN ?_ _ | refine blk_drew ?_ | refine blk_alloc ?_ _)); refine blk_far ?_ za9.out _; (with_reducible repeat (first | refine blk_drewN ?_ _ | refine blk_drew ?_ | refine blk_alloc ?_ _)); refine blk_far ?_ za9.out _; (with_reducible repeat (first | refine blk_drewN ?_ _ | refine blk_drew ?_ | refine blk_alloc ?_ _)); exact zaG.out) hb); have n2_ := Aside0.mk (blk_below (g := za5) (o := .cells #[.string t218, .int .i64 t219, .int .i64 t220] 62 (0, 0)) (by (with_reducible repeat (first | refine blk_drewN ?_ _ | refine blk_drew ?_ | refine blk_alloc ?_ _)); refine blk_far ?_ zba.out _; (with_reducible repeat (first | refine blk_drewN ?_ _ | refine blk_drew ?_ | refine blk_alloc ?_ _)); refine blk_far ?_ zba.out _; (with_reducible repeat (first | refine blk_drewN ?_ _ | refine blk_drew ?_ | refine blk_alloc ?_ _)); refine blk_far ?_ zba.out _; (with_reducible repeat (first | refine blk_drewN ?_ _ | refine blk_drew ?_ | refine blk_alloc ?_ _)); refine blk_put (cs := #[.string t218, .int .i64 t219, .int .i64 0]) ?_ 2 _ rfl; (with_reducible repeat (first | refine blk_drewN ?_ _ | refine blk_drew ?_ | refine blk_alloc ?_ _)); refine blk_put (cs := #[.string t218, .int .i64 0, .int .i64 0]) ?_ 1 _ rfl; (with_reducible repeat (first | refine blk_drewN ?_ _ | refine blk_drew ?_ | refine blk_alloc ?_ _)); refine blk_put (cs := #[.string (⟨#[]⟩ : ByteArray), .int .i64 0, .int .i64 0]) ?_ 0 _ rfl; (with_reducible repeat (first | refine blk_drewN ?_ _ | refine blk_drew ?_ | refine blk_alloc ?_ _)); exact za6.out) hb); have n3_ := M.upS HB hb; have n4_ := Aside0.mk (hbox); have n5_ := M.upG HB hg; have n6_ := M.upG HB hg; have n7_ := Aside0.mk ((by rw [hg]; exact Nat.ne_of_lt (blk_lt (g := zaF) (o := .cells #[.string t218, .int .i64 t219, .int .i64 t220] 62 (0, 0)) (by (with_reducible repeat (first | refine blk_drewN ?_ _ | refine blk_drew ?_ | refine blk_alloc ?_ _)); refine blk_put (cs := #[.string t218, .int .i64 t219, .int .i64 zaR]) ?_ 2 _ rfl; (with_reducible repeat (first | refine blk_drewN ?_ _ | refine blk_drew ?_ | refine blk_alloc ?_ _)); refine blk_put (cs := #[.string t218, .int .i64 zaQ, .int .i64 zaR]) ?_ 1 _ rfl; (with_reducible repeat (first | refine blk_drewN ?_ _ | refine blk_drew ?_ | refine blk_alloc ?_ _)); refine blk_put (cs := #[.string zaP, .int .i64 zaQ, .int .i64 zaR]) ?_ 0 _ rfl; (with_reducible repeat (first | refine blk_drewN ?_ _ | refine blk_drew ?_ | refine blk_alloc ?_ _)); refine blk_far ?_ za9.out _; (with_reducible repeat (first | refine blk_drewN ?_ _ | refine blk_drew ?_ | refine blk_alloc ?_ _)); refine blk_far ?_ za9.out _; (with_reducible repeat (first | refine blk_drewN ?_ _ | refine blk_drew ?_ | refine blk_alloc ?_ _)); refine blk_far ?_ za9.out _; (with_reducible repeat (first | refine blk_drewN ?_ _ | refine blk_drew ?_ | refine blk_alloc ?_ _)); exact zaG.out)) : zaF ≠ zbp)); have n8_ := Aside0.mk ((by rw [hg]; exact Nat.ne_of_gt (blk_lt (g := zaF) (o := .cells #[.string t218, .int .i64 t219, .int .i64 t220] 62 (0, 0)) (by (with_reducible repeat (first | refine blk_drewN ?_ _ | refine blk_drew ?_ | refine blk_alloc ?_ _)); refine blk_put (cs := #[.string t218, .int .i64 t219, .int .i64 zaR]) ?_ 2 _ rfl; (with_reducible repeat (first | refine blk_drewN ?_ _ | refine blk_drew ?_ | refine blk_alloc ?_ _)); refine blk_put (cs := #[.string t218, .int .i64 zaQ, .int .i64 zaR]) ?_ 1 _ rfl; (with_reducible repeat (first | refine blk_drewN ?_ _ | refine blk_drew ?_ | refine blk_alloc ?_ _)); refine blk_put (cs := #[.string zaP, .int .i64 zaQ, .int .i64 zaR]) ?_ 0 _ rfl; (with_reducible repeat (first | refine blk_drewN ?_ _ | refine blk_drew ?_ | refine blk_alloc ?_ _)); refine blk_far ?_ za9.out _; (with_reducible repeat (first | refine blk_drewN ?_ _ | refine blk_drew ?_ | refine blk_alloc ?_ _)); refine blk_far ?_ za9.out _; (with_reducible repeat (first | refine blk_drewN ?_ _ | refine blk_drew ?_ | refine blk_alloc ?_ _)); refine blk_far ?_ za9.out _; (with_reducible repeat (first | refine blk_drewN ?_ _ | refine blk_drew ?_ | refine blk_alloc ?_ _)); exact zaG.out)) : zbp ≠ zaF)); have n9_ := Aside0.mk ((by rw [hg]; exact Nat.ne_of_lt (blk_lt (g := za5) (o := .cells #[.string t218, .int .i64 t219, .int .i64 t220] 62 (0, 0)) (by (with_reducible repeat (first | refine blk_drewN ?_ _ | refine blk_drew ?_ | refine blk_alloc ?_ _)); refine blk_far ?_ zba.out _; (with_reducible repeat (first | refine blk_drewN ?_ _ | refine blk_drew ?_ | refine blk_alloc ?_ _)); refine blk_far ?_ zba.out _; (with_reducible repeat (first | refine blk_drewN ?_ _ | refine blk_drew ?_ | refine blk_alloc ?_ _)); refine blk_far ?_ zba.out _; (with_reducible repeat (first | refine blk_drewN ?_ _ | refine blk_drew ?_ | refine blk_alloc ?_ _)); refine blk_put (cs := #[.string t218, .int .i64 t219, .int .i64 0]) ?_ 2 _ rfl; (with_reducible repeat (first | refine blk_drewN ?_ _ | refine blk_drew ?_ | refine blk_alloc ?_ _)); refine blk_put (cs := #[.string t218, .int .i64 0, .int .i64 0]) ?_ 1 _ rfl; (with_reducible repeat (first | refine blk_drewN ?_ _ | refine blk_drew ?_ | refine blk_alloc ?_ _)); refine blk_put (cs := #[.string (⟨#[]⟩ : ByteArray), .int .i64 0, .int .i64 0]) ?_ 0 _ rfl; (with_reducible repeat (first | refine blk_drewN ?_ _ | refine blk_drew ?_ | refine blk_alloc ?_ _)); exact za6.out)) : za5 ≠ zbp)); have n10_ := Aside0.mk ((by rw [hg]; exact Nat.ne_of_gt (blk_lt (g := za5) (o := .cells #[.string t218, .int .i64 t219, .int .i64 t220] 62 (0, 0)) (by (with_reducible repeat (first | refine blk_drewN ?_ _ | refine blk_drew ?_ | refine blk_alloc ?_ _)); refine blk_far ?_ zba.out _; (with_reducible repeat (first | refine blk_drewN ?_ _ | refine blk_drew ?_ | refine blk_alloc ?_ _)); refine blk_far ?_ zba.out _; (with_reducible repeat (first | refine blk_drewN ?_ _ | refine blk_drew ?_ | refine blk_alloc ?_ _)); refine blk_far ?_ zba.out _; (with_reducible repeat (first | refine blk_drewN ?_ _ | refine blk_drew ?_ | refine blk_alloc ?_ _)); refine blk_put (cs := #[.string t218, .int .i64 t219, .int .i64 0]) ?_ 2 _ rfl; (with_reducible repeat (first | refine blk_drewN ?_ _ | refine blk_drew ?_ | refine blk_alloc ?_ _)); refine blk_put (cs := #[.string t218, .int .i64 0, .int .i64 0]) ?_ 1 _ rfl; (with_reducible repeat (first | refine blk_drewN ?_ _ | refine blk_drew ?_ | refine blk_alloc ?_ _)); refine blk_put (cs := #[.string (⟨#[]⟩ : ByteArray), .int .i64 0, .int .i64 0]) ?_ 0 _ rfl; (with_reducible repeat (first | refine blk_drewN ?_ _ | refine blk_drew ?_ | refine blk_alloc ?_ _)); exact za6.out)) : zbp ≠ za5)); clear zaS zaG za6 HB; have zaS := n0_; have zaG := n1_; have za6 := n2_; have HB := n3_; have zbq := n4_; have zbr := n5_; have zbs := n6_; have zbt := n7_; have zbu := n8_; have zbv := n9_; have zbw := n10_; clear n0_ n1_ n2_ n3_ n4_ n5_ n6_ n7_ n8_ n9_ n10_; clear hb hbox hg; have zbx := zbu.out; have zby := zbt.out; have zbz := zbw.out; have zbA := zbv.out; have zbB : w17.cell? ⟨zbp, 0, none⟩ = some (.bool false) := (blk_cell zbq.out 0).trans rfl; have zbC : w17.cell? ⟨zbp, 1, none⟩ = some (.int .i64 0) := (blk_cell zbq.out 1).trans rfl; have zbD : w17.cell? ⟨zbp, 2, none⟩ = some (.int .i64 0) := (blk_cell zbq.out 2).trans rfl; have zbE : w17.cell? ⟨zbp, 3, none⟩ = some (.string (⟨#[]⟩ : ByteArray)) := (blk_cell zbq.out 3).trans rfl; have zbF := blk_frozen zbq.out 0; have zbG := blk_frozen zbq.out 1; have zbH := blk_frozen zbq.out 2; have zbI := blk_frozen zbq.out 3))
            repeat (go_quiet (first | (go_at_call 36; (with_reducible refine (pleachref04_Num.calls zaP zaQ zaR 4294967295 t218 t219 t220 t221 _ A9.out).mono ?_); rintro e w12 ⟨rfl, hb⟩; have n0_ := M.roB zaS hb; have n1_ := M.bkB zaG hb; have n2_ := M.upS HB hb; clear zaS zaG HB; have zaS := n0_; have zaG := n1_; have HB := n2_; clear n0_ n1_ n2_; (try clear hb); (try clear hb2); (try clear hk); (try clear hi)) | ((with_reducible refine gate_dst (N := 6) rfl ?_); (try (refine gate_guard (by rfl) ?_; dsimp only)); refine box_event ?hg (N := 6) ?hd (cs := #[.string (⟨#[]⟩ : ByteArray), .int .i64 0, .int .i64 0]) (t := 62) ?hr ?_; (case hd => rfl); (case hg => rfl); (case hr => first | (go_simp; done) | (go_simp; rfl)); intro za5 hg w13 hbox hb; have n0_ := M.roB zaS hb; have n1_ := M.bkB zaG hb; have n2_ := M.upS HB hb; have n3_ := Aside0.mk (hbox); have n4_ := M.upG HB hg; have n5_ := M.upG HB hg; have n6_ := M.bkL zaG hg; have n7_ := M.bkG zaG hg; clear zaS zaG HB; have zaS := n0_; have zaG := n1_; have HB := n2_; have za6 := n3_; have za7 := n4_; have za8 := n5_; have za9 := n6_; have zba := n7_; clear n0_ n1_ n2_ n3_ n4_ n5_ n6_ n7_; clear hb hbox hg; have zbb := zba.out; have zbc := za9.out; obtain ⟨zbd, zbe, zbf⟩ := M.bc3 (w := w13) (a := .string (⟨#[]⟩ : ByteArray)) (b := .int .i64 0) (c := .int .i64 0) za6.out; obtain ⟨zbg, zbh, zbi⟩ := M.bf3 za6; obtain ⟨zbj, zbk, zbl⟩ := M.bc3 (w := w13) (a := .string zaP) (b := .int .i64 zaQ) (c := .int .i64 zaR) zaG.out; obtain ⟨zbm, zbn, zbo⟩ := M.bf3 zaG) | ((with_reducible refine gate_dst (N := 8) rfl ?_); (try (refine gate_guard (by rfl) ?_; dsimp only)); refine box_event ?hg (N := 8) ?hd (cs := #[.bool false, .int .i64 0, .int .i64 0, .string (⟨#[]⟩ : ByteArray)]) (t := 34) ?hr ?_; (case hd => rfl); (case hg => rfl); (case hr => first | (go_simp; done) | (go_simp; rfl)); intro zbp hg w17 hbox hb; have n0_ := Aside0.mk (Kd.R_below (Kd.R_elderB (by (with_reducible repeat (first | apply Kd.R_alloc | apply Kd.R_drewN | apply Kd.R_drew)); exact (Kd.R_mono (Kd.R_mono (Kd.R_far (p := ⟨zaF, 2, none⟩) (Kd.R_far (p := ⟨zaF, 1, none⟩) (Kd.R_far (p := ⟨zaF, 0, none⟩) (Kd.R_far (p := ⟨za5, 2, none⟩) (Kd.R_far (p := ⟨za5, 1, none⟩) (Kd.R_far (p := ⟨za5, 0, none⟩) (Kd.R_types (Kd.R_types zaS.out za6.out (by decide)) zaG.out (by decide)) (fun _ hk => hk.1.2) (.string t218)) (fun _ hk => hk.1.2) (.int .i64 t219)) (fun _ hk => hk.1.2) (.int .i64 t220)) (fun _ hk => hk.2) (.string t218)) (fun _ hk => hk.2) (.int .i64 t219)) (fun _ hk => hk.2) (.int .i64 t220)) (fun _ h_ => h_.1)) (fun _ h_ => h_.1))) zbp (Nat.le_of_eq hg.symm)) hb); have n1_ := Aside0.mk (blk_below (g := zaF) (o := .cells #[.string t218, .int .i64 t219, .int .i64 t220] 62 (0, 0)) (by (with_reducible repeat (first | refine blk_drewN ?_ _ | refine blk_drew ?_ | refine blk_alloc ?_ _)); refine blk_put (cs := #[.string t218, .int .i64 t219, .int .i64 zaR]) ?_ 2 _ rfl; (with_reducible repeat (first | refine blk_drewN ?_ _ | refine blk_drew ?_ | refine blk_alloc ?_ _)); refine blk_put (cs := #[.string t218, .int .i64 zaQ, .int .i64 zaR]) ?_ 1 _ rfl; (with_reducible repeat (first | refine blk_drewN ?_ _ | refine blk_drew ?_ | refine blk_alloc ?_ _)); refine blk_put (cs := #[.string zaP, .int .i64 zaQ, .int .i64 zaR]) ?_ 0 _ rfl; (with_reducible repeat (first | refine blk_drewN ?_ _ | refine blk_drew ?_ | refine blk_alloc ?_ _)); refine blk_far ?_ za9.out _; (with_reducible repeat (first | refine blk_drewN ?_ _ | refine blk_drew ?_ | refine blk_alloc ?_ _)); refine blk_far ?_ za9.out _; (with_reducible repeat (first | refine blk_drewN ?_ _ | refine blk_drew ?_ | refine blk_alloc ?_ _)); refine blk_far ?_ za9.out _; (with_reducible repeat (first | refine blk_drewN ?_ _ | refine blk_drew ?_ | refine blk_alloc ?_ _)); exact zaG.out) hb); have n2_ := Aside0.mk (blk_below (g := za5) (o := .cells #[.string t218, .int .i64 t219, .int .i64 t220] 62 (0, 0)) (by (with_reducible repeat (first | refine blk_drewN ?_ _ | refine blk_drew ?_ | refine blk_alloc ?_ _)); refine blk_far ?_ zba.out _; (with_reducible repeat (first | refine blk_drewN ?_ _ | refine blk_drew ?_ | refine blk_alloc ?_ _)); refine blk_far ?_ zba.out _; (with_reducible repeat (first | refine blk_drewN ?_ _ | refine blk_drew ?_ | refine blk_alloc ?_ _)); refine blk_far ?_ zba.out _; (with_reducible repeat (first | refine blk_drewN ?_ _ | refine blk_drew ?_ | refine blk_alloc ?_ _)); refine blk_put (cs := #[.string t218, .int .i64 t219, .int .i64 0]) ?_ 2 _ rfl; (with_reducible repeat (first | refine blk_drewN ?_ _ | refine blk_drew ?_ | refine blk_alloc ?_ _)); refine blk_put (cs := #[.string t218, .int .i64 0, .int .i64 0]) ?_ 1 _ rfl; (with_reducible repeat (first | refine blk_drewN ?_ _ | refine blk_drew ?_ | refine blk_alloc ?_ _)); refine blk_put (cs := #[.string (⟨#[]⟩ : ByteArray), .int .i64 0, .int .i64 0]) ?_ 0 _ rfl; (with_reducible repeat (first | refine blk_drewN ?_ _ | refine blk_drew ?_ | refine blk_alloc ?_ _)); exact za6.out) hb); have n3_ := M.upS HB hb; have n4_ := Aside0.mk (hbox); have n5_ := M.upG HB hg; have n6_ := M.upG HB hg; have n7_ := Aside0.mk ((by rw [hg]; exact Nat.ne_of_lt (blk_lt (g := zaF) (o := .cells #[.string t218, .int .i64 t219, .int .i64 t220] 62 (0, 0)) (by (with_reducible repeat (first | refine blk_drewN ?_ _ | refine blk_drew ?_ | refine blk_alloc ?_ _)); refine blk_put (cs := #[.string t218, .int .i64 t219, .int .i64 zaR]) ?_ 2 _ rfl; (with_reducible repeat (first | refine blk_drewN ?_ _ | refine blk_drew ?_ | refine blk_alloc ?_ _)); refine blk_put (cs := #[.string t218, .int .i64 zaQ, .int .i64 zaR]) ?_ 1 _ rfl; (with_reducible repeat (first | refine blk_drewN ?_ _ | refine blk_drew ?_ | refine blk_alloc ?_ _)); refine blk_put (cs := #[.string zaP, .int .i64 zaQ, .int .i64 zaR]) ?_ 0 _ rfl; (with_reducible repeat (first | refine blk_drewN ?_ _ | refine blk_drew ?_ | refine blk_alloc ?_ _)); refine blk_far ?_ za9.out _; (with_reducible repeat (first | refine blk_drewN ?_ _ | refine blk_drew ?_ | refine blk_alloc ?_ _)); refine blk_far ?_ za9.out _; (with_reducible repeat (first | refine blk_drewN ?_ _ | refine blk_drew ?_ | refine blk_alloc ?_ _)); refine blk_far ?_ za9.out _; (with_reducible repeat (first | refine blk_drewN ?_ _ | refine blk_drew ?_ | refine blk_alloc ?_ _)); exact zaG.out)) : zaF ≠ zbp)); have n8_ := Aside0.mk ((by rw [hg]; exact Nat.ne_of_gt (blk_lt (g := zaF) (o := .cells #[.string t218, .int .i64 t219, .int .i64 t220] 62 (0, 0)) (by (with_reducible repeat (first | refine blk_drewN ?_ _ | refine blk_drew ?_ | refine blk_alloc ?_ _)); refine blk_put (cs := #[.string t218, .int .i64 t219, .int .i64 zaR]) ?_ 2 _ rfl; (with_reducible repeat (first | refine blk_drewN ?_ _ | refine blk_drew ?_ | refine blk_alloc ?_ _)); refine blk_put (cs := #[.string t218, .int .i64 zaQ, .int .i64 zaR]) ?_ 1 _ rfl; (with_reducible repeat (first | refine blk_drewN ?_ _ | refine blk_drew ?_ | refine blk_alloc ?_ _)); refine blk_put (cs := #[.string zaP, .int .i64 zaQ, .int .i64 zaR]) ?_ 0 _ rfl; (with_reducible repeat (first | refine blk_drewN ?_ _ | refine blk_drew ?_ | refine blk_alloc ?_ _)); refine blk_far ?_ za9.out _; (with_reducible repeat (first | refine blk_drewN ?_ _ | refine blk_drew ?_ | refine blk_alloc ?_ _)); refine blk_far ?_ za9.out _; (with_reducible repeat (first | refine blk_drewN ?_ _ | refine blk_drew ?_ | refine blk_alloc ?_ _)); refine blk_far ?_ za9.out _; (with_reducible repeat (first | refine blk_drewN ?_ _ | refine blk_drew ?_ | refine blk_alloc ?_ _)); exact zaG.out)) : zbp ≠ zaF)); have n9_ := Aside0.mk ((by rw [hg]; exact Nat.ne_of_lt (blk_lt (g := za5) (o := .cells #[.string t218, .int .i64 t219, .int .i64 t220] 62 (0, 0)) (by (with_reducible repeat (first | refine blk_drewN ?_ _ | refine blk_drew ?_ | refine blk_alloc ?_ _)); refine blk_far ?_ zba.out _; (with_reducible repeat (first | refine blk_drewN ?_ _ | refine blk_drew ?_ | refine blk_alloc ?_ _)); refine blk_far ?_ zba.out _; (with_reducible repeat (first | refine blk_drewN ?_ _ | refine blk_drew ?_ | refine blk_alloc ?_ _)); refine blk_far ?_ zba.out _; (with_reducible repeat (first | refine blk_drewN ?_ _ | refine blk_drew ?_ | refine blk_alloc ?_ _)); refine blk_put (cs := #[.string t218, .int .i64 t219, .int .i64 0]) ?_ 2 _ rfl; (with_reducible repeat (first | refine blk_drewN ?_ _ | refine blk_drew ?_ | refine blk_alloc ?_ _)); refine blk_put (cs := #[.string t218, .int .i64 0, .int .i64 0]) ?_ 1 _ rfl; (with_reducible repeat (first | refine blk_drewN ?_ _ | refine blk_drew ?_ | refine blk_alloc ?_ _)); refine blk_put (cs := #[.string (⟨#[]⟩ : ByteArray), .int .i64 0, .int .i64 0]) ?_ 0 _ rfl; (with_reducible repeat (first | refine blk_drewN ?_ _ | refine blk_drew ?_ | refine blk_alloc ?_ _)); exact za6.out)) : za5 ≠ zbp)); have n10_ := Aside0.mk ((by rw [hg]; exact Nat.ne_of_gt (blk_lt (g := za5) (o := .cells #[.string t218, .int .i64 t219, .int .i64 t220] 62 (0, 0)) (by (with_reducible repeat (first | refine blk_drewN ?_ _ | refine blk_drew ?_ | refine blk_alloc ?_ _)); refine blk_far ?_ zba.out _; (with_reducible repeat (first | refine blk_drewN ?_ _ | refine blk_drew ?_ | refine blk_alloc ?_ _)); refine blk_far ?_ zba.out _; (with_reducible repeat (first | refine blk_drewN ?_ _ | refine blk_drew ?_ | refine blk_alloc ?_ _)); refine blk_far ?_ zba.out _; (with_reducible repeat (first | refine blk_drewN ?_ _ | refine blk_drew ?_ | refine blk_alloc ?_ _)); refine blk_put (cs := #[.string t218, .int .i64 t219, .int .i64 0]) ?_ 2 _ rfl; (with_reducible repeat (first | refine blk_drewN ?_ _ | refine blk_drew ?_ | refine blk_alloc ?_ _)); refine blk_put (cs := #[.string t218, .int .i64 0, .int .i64 0]) ?_ 1 _ rfl; (with_reducible repeat (first | refine blk_drewN ?_ _ | refine blk_drew ?_ | refine blk_alloc ?_ _)); refine blk_put (cs := #[.string (⟨#[]⟩ : ByteArray), .int .i64 0, .int .i64 0]) ?_ 0 _ rfl; (with_reducible repeat (first | refine blk_drewN ?_ _ | refine blk_drew ?_ | refine blk_alloc ?_ _)); exact za6.out)) : zbp ≠ za5)); clear zaS zaG za6 HB; have zaS := n0_; have zaG := n1_; have za6 := n2_; have HB := n3_; have zbq := n4_; have zbr := n5_; have zbs := n6_; have zbt := n7_; have zbu := n8_; have zbv := n9_; have zbw := n10_; clear n0_ n1_ n2_ n3_ n4_ n5_ n6_ n7_ n8_ n9_ n10_; clear hb hbox hg; have zbx := zbu.out; have zby := zbt.out; have zbz := zbw.out; have zbA := zbv.out; have zbB : w17.cell? ⟨zbp, 0, none⟩ = some (.bool false) := (blk_cell zbq.out 0).trans rfl; have zbC : w17.cell? ⟨zbp, 1, none⟩ = some (.int .i64 0) := (blk_cell zbq.out 1).trans rfl; have zbD : w17.cell? ⟨zbp, 2, none⟩ = some (.int .i64 0) := (blk_cell zbq.out 2).trans rfl; have zbE : w17.cell? ⟨zbp, 3, none⟩ = some (.string (⟨#[]⟩ : ByteArray)) := (blk_cell zbq.out 3).trans rfl; have zbF := blk_frozen zbq.out 0; have zbG := blk_frozen zbq.out 1; have zbH := blk_frozen zbq.out 2; have zbI := blk_frozen zbq.out 3)); go_upto_if 34 with (first | (go_at_call 36; (with_reducible refine (pleachref04_Num.calls zaP zaQ zaR 4294967295 t218 t219 t220 t221 _ A9.out).mono ?_); rintro e w12 ⟨rfl, hb⟩; have n0_ := M.roB zaS hb; have n1_ := M.bkB zaG hb; have n2_ := M.upS HB hb; clear zaS zaG HB; have zaS := n0_; have zaG := n1_; have HB := n2_; clear n0_ n1_ n2_; (try clear hb); (try clear hb2); (try clear hk); (try clear hi)) | ((with_reducible refine gate_dst (N := 6) rfl ?_); (try (refine gate_guard (by rfl) ?_; dsimp only)); refine box_event ?hg (N := 6) ?hd (cs := #[.string (⟨#[]⟩ : ByteArray), .int .i64 0, .int .i64 0]) (t := 62) ?hr ?_; (case hd => rfl); (case hg => rfl); (case hr => first | (go_simp; done) | (go_simp; rfl)); intro za5 hg w13 hbox hb; have n0_ := M.roB zaS hb; have n1_ := M.bkB zaG hb; have n2_ := M.upS HB hb; have n3_ := Aside0.mk (hbox); have n4_ := M.upG HB hg; have n5_ := M.upG HB hg; have n6_ := M.bkL zaG hg; have n7_ := M.bkG zaG hg; clear zaS zaG HB; have zaS := n0_; have zaG := n1_; have HB := n2_; have za6 := n3_; have za7 := n4_; have za8 := n5_; have za9 := n6_; have zba := n7_; clear n0_ n1_ n2_ n3_ n4_ n5_ n6_ n7_; clear hb hbox hg; have zbb := zba.out; have zbc := za9.out; obtain ⟨zbd, zbe, zbf⟩ := M.bc3 (w := w13) (a := .string (⟨#[]⟩ : ByteArray)) (b := .int .i64 0) (c := .int .i64 0) za6.out; obtain ⟨zbg, zbh, zbi⟩ := M.bf3 za6; obtain ⟨zbj, zbk, zbl⟩ := M.bc3 (w := w13) (a := .string zaP) (b := .int .i64 zaQ) (c := .int .i64 zaR) zaG.out; obtain ⟨zbm, zbn, zbo⟩ := M.bf3 zaG) | ((with_reducible refine gate_dst (N := 8) rfl ?_); (try (refine gate_guard (by rfl) ?_; dsimp only)); refine box_event ?hg (N := 8) ?hd (cs := #[.bool false, .int .i64 0, .int .i64 0, .string (⟨#[]⟩ : ByteArray)]) (t := 34) ?hr ?_; (case hd => rfl); (case hg => rfl); (case hr => first | (go_simp; done) | (go_simp; rfl)); intro zbp hg w17 hbox hb; have n0_ := Aside0.mk (Kd.R_below (Kd.R_elderB (by (with_reducible repeat (first | apply Kd.R_alloc | apply Kd.R_drewN | apply Kd.R_drew)); exact (Kd.R_mono (Kd.R_mono (Kd.R_far (p := ⟨zaF, 2, none⟩) (Kd.R_far (p := ⟨zaF, 1, none⟩) (Kd.R_far (p := ⟨zaF, 0, none⟩) (Kd.R_far (p := ⟨za5, 2, none⟩) (Kd.R_far (p := ⟨za5, 1, none⟩) (Kd.R_far (p := ⟨za5, 0, none⟩) (Kd.R_types (Kd.R_types zaS.out za6.out (by decide)) zaG.out (by decide)) (fun _ hk => hk.1.2) (.string t218)) (fun _ hk => hk.1.2) (.int .i64 t219)) (fun _ hk => hk.1.2) (.int .i64 t220)) (fun _ hk => hk.2) (.string t218)) (fun _ hk => hk.2) (.int .i64 t219)) (fun _ hk => hk.2) (.int .i64 t220)) (fun _ h_ => h_.1)) (fun _ h_ => h_.1))) zbp (Nat.le_of_eq hg.symm)) hb); have n1_ := Aside0.mk (blk_below (g := zaF) (o := .cells #[.string t218, .int .i64 t219, .int .i64 t220] 62 (0, 0)) (by (with_reducible repeat (first | refine blk_drewN ?_ _ | refine blk_drew ?_ | refine blk_alloc ?_ _)); refine blk_put (cs := #[.string t218, .int .i64 t219, .int .i64 zaR]) ?_ 2 _ rfl; (with_reducible repeat (first | refine blk_drewN ?_ _ | refine blk_drew ?_ | refine blk_alloc ?_ _)); refine blk_put (cs := #[.string t218, .int .i64 zaQ, .int .i64 zaR]) ?_ 1 _ rfl; (with_reducible repeat (first | refine blk_drewN ?_ _ | refine blk_drew ?_ | refine blk_alloc ?_ _)); refine blk_put (cs := #[.string zaP, .int .i64 zaQ, .int .i64 zaR]) ?_ 0 _ rfl; (with_reducible repeat (first | refine blk_drewN ?_ _ | refine blk_drew ?_ | refine blk_alloc ?_ _)); refine blk_far ?_ za9.out _; (with_reducible repeat (first | refine blk_drewN ?_ _ | refine blk_drew ?_ | refine blk_alloc ?_ _)); refine blk_far ?_ za9.out _; (with_reducible repeat (first | refine blk_drewN ?_ _ | refine blk_drew ?_ | refine blk_alloc ?_ _)); refine blk_far ?_ za9.out _; (with_reducible repeat (first | refine blk_drewN ?_ _ | refine blk_drew ?_ | refine blk_alloc ?_ _)); exact zaG.out) hb); have n2_ := Aside0.mk (blk_below (g := za5) (o := .cells #[.string t218, .int .i64 t219, .int .i64 t220] 62 (0, 0)) (by (with_reducible repeat (first | refine blk_drewN ?_ _ | refine blk_drew ?_ | refine blk_alloc ?_ _)); refine blk_far ?_ zba.out _; (with_reducible repeat (first | refine blk_drewN ?_ _ | refine blk_drew ?_ | refine blk_alloc ?_ _)); refine blk_far ?_ zba.out _; (with_reducible repeat (first | refine blk_drewN ?_ _ | refine blk_drew ?_ | refine blk_alloc ?_ _)); refine blk_far ?_ zba.out _; (with_reducible repeat (first | refine blk_drewN ?_ _ | refine blk_drew ?_ | refine blk_alloc ?_ _)); refine blk_put (cs := #[.string t218, .int .i64 t219, .int .i64 0]) ?_ 2 _ rfl; (with_reducible repeat (first | refine blk_drewN ?_ _ | refine blk_drew ?_ | refine blk_alloc ?_ _)); refine blk_put (cs := #[.string t218, .int .i64 0, .int .i64 0]) ?_ 1 _ rfl; (with_reducible repeat (first | refine blk_drewN ?_ _ | refine blk_drew ?_ | refine blk_alloc ?_ _)); refine blk_put (cs := #[.string (⟨#[]⟩ : ByteArray), .int .i64 0, .int .i64 0]) ?_ 0 _ rfl; (with_reducible repeat (first | refine blk_drewN ?_ _ | refine blk_drew ?_ | refine blk_alloc ?_ _)); exact za6.out) hb); have n3_ := M.upS HB hb; have n4_ := Aside0.mk (hbox); have n5_ := M.upG HB hg; have n6_ := M.upG HB hg; have n7_ := Aside0.mk ((by rw [hg]; exact Nat.ne_of_lt (blk_lt (g := zaF) (o := .cells #[.string t218, .int .i64 t219, .int .i64 t220] 62 (0, 0)) (by (with_reducible repeat (first | refine blk_drewN ?_ _ | refine blk_drew ?_ | refine blk_alloc ?_ _)); refine blk_put (cs := #[.string t218, .int .i64 t219, .int .i64 zaR]) ?_ 2 _ rfl; (with_reducible repeat (first | refine blk_drewN ?_ _ | refine blk_drew ?_ | refine blk_alloc ?_ _)); refine blk_put (cs := #[.string t218, .int .i64 zaQ, .int .i64 zaR]) ?_ 1 _ rfl; (with_reducible repeat (first | refine blk_drewN ?_ _ | refine blk_drew ?_ | refine blk_alloc ?_ _)); refine blk_put (cs := #[.string zaP, .int .i64 zaQ, .int .i64 zaR]) ?_ 0 _ rfl; (with_reducible repeat (first | refine blk_drewN ?_ _ | refine blk_drew ?_ | refine blk_alloc ?_ _)); refine blk_far ?_ za9.out _; (with_reducible repeat (first | refine blk_drewN ?_ _ | refine blk_drew ?_ | refine blk_alloc ?_ _)); refine blk_far ?_ za9.out _; (with_reducible repeat (first | refine blk_drewN ?_ _ | refine blk_drew ?_ | refine blk_alloc ?_ _)); refine blk_far ?_ za9.out _; (with_reducible repeat (first | refine blk_drewN ?_ _ | refine blk_drew ?_ | refine blk_alloc ?_ _)); exact zaG.out)) : zaF ≠ zbp)); have n8_ := Aside0.mk ((by rw [hg]; exact Nat.ne_of_gt (blk_lt (g := zaF) (o := .cells #[.string t218, .int .i64 t219, .int .i64 t220] 62 (0, 0)) (by (with_reducible repeat (first | refine blk_drewN ?_ _ | refine blk_drew ?_ | refine blk_alloc ?_ _)); refine blk_put (cs := #[.string t218, .int .i64 t219, .int .i64 zaR]) ?_ 2 _ rfl; (with_reducible repeat (first | refine blk_drewN ?_ _ | refine blk_drew ?_ | refine blk_alloc ?_ _)); refine blk_put (cs := #[.string t218, .int .i64 zaQ, .int .i64 zaR]) ?_ 1 _ rfl; (with_reducible repeat (first | refine blk_drewN ?_ _ | refine blk_drew ?_ | refine blk_alloc ?_ _)); refine blk_put (cs := #[.string zaP, .int .i64 zaQ, .int .i64 zaR]) ?_ 0 _ rfl; (with_reducible repeat (first | refine blk_drewN ?_ _ | refine blk_drew ?_ | refine blk_alloc ?_ _)); refine blk_far ?_ za9.out _; (with_reducible repeat (first | refine blk_drewN ?_ _ | refine blk_drew ?_ | refine blk_alloc ?_ _)); refine blk_far ?_ za9.out _; (with_reducible repeat (first | refine blk_drewN ?_ _ | refine blk_drew ?_ | refine blk_alloc ?_ _)); refine blk_far ?_ za9.out _; (with_reducible repeat (first | refine blk_drewN ?_ _ | refine blk_drew ?_ | refine blk_alloc ?_ _)); exact zaG.out)) : zbp ≠ zaF)); have n9_ := Aside0.mk ((by rw [hg]; exact Nat.ne_of_lt (blk_lt (g := za5) (o := .cells #[.string t218, .int .i64 t219, .int .i64 t220] 62 (0, 0)) (by (with_reducible repeat (first | refine blk_drewN ?_ _ | refine blk_drew ?_ | refine blk_alloc ?_ _)); refine blk_far ?_ zba.out _; (with_reducible repeat (first | refine blk_drewN ?_ _ | refine blk_drew ?_ | refine blk_alloc ?_ _)); refine blk_far ?_ zba.out _; (with_reducible repeat (first | refine blk_drewN ?_ _ | refine blk_drew ?_ | refine blk_alloc ?_ _)); refine blk_far ?_ zba.out _; (with_reducible repeat (first | refine blk_drewN ?_ _ | refine blk_drew ?_ | refine blk_alloc ?_ _)); refine blk_put (cs := #[.string t218, .int .i64 t219, .int .i64 0]) ?_ 2 _ rfl; (with_reducible repeat (first | refine blk_drewN ?_ _ | refine blk_drew ?_ | refine blk_alloc ?_ _)); refine blk_put (cs := #[.string t218, .int .i64 0, .int .i64 0]) ?_ 1 _ rfl; (with_reducible repeat (first | refine blk_drewN ?_ _ | refine blk_drew ?_ | refine blk_alloc ?_ _)); refine blk_put (cs := #[.string (⟨#[]⟩ : ByteArray), .int .i64 0, .int .i64 0]) ?_ 0 _ rfl; (with_reducible repeat (first | refine blk_drewN ?_ _ | refine blk_drew ?_ | refine blk_alloc ?_ _)); exact za6.out)) : za5 ≠ zbp)); have n10_ := Aside0.mk ((by rw [hg]; exact Nat.ne_of_gt (blk_lt (g := za5) (o := .cells #[.string t218, .int .i64 t219, .int .i64 t220] 62 (0, 0)) (by (with_reducible repeat (first | refine blk_drewN ?_ _ | refine blk_drew ?_ | refine blk_alloc ?_ _)); refine blk_far ?_ zba.out _; (with_reducible repeat (first | refine blk_drewN ?_ _ | refine blk_drew ?_ | refine blk_alloc ?_ _)); refine blk_far ?_ zba.out _; (with_reducible repeat (first | refine blk_drewN ?_ _ | refine blk_drew ?_ | refine blk_alloc ?_ _)); refine blk_far ?_ zba.out _; (with_reducible repeat (first | refine blk_drewN ?_ _ | refine blk_drew ?_ | refine blk_alloc ?_ _)); refine blk_put (cs := #[.string t218, .int .i64 t219, .int .i64 0]) ?_ 2 _ rfl; (with_reducible repeat (first | refine blk_drewN ?_ _ | refine blk_drew ?_ | refine blk_alloc ?_ _)); refine blk_put (cs := #[.string t218, .int .i64 0, .int .i64 0]) ?_ 1 _ rfl; (with_reducible repeat (first | refine blk_drewN ?_ _ | refine blk_drew ?_ | refine blk_alloc ?_ _)); refine blk_put (cs := #[.string (⟨#[]⟩ : ByteArray), .int .i64 0, .int .i64 0]) ?_ 0 _ rfl; (with_reducible repeat (first | refine blk_drewN ?_ _ | refine blk_drew ?_ | refine blk_alloc ?_ _)); exact za6.out)) : zbp ≠ za5)); clear zaS zaG za6 HB; have zaS := n0_; have zaG := n1_; have za6 := n2_; have HB := n3_; have zbq := n4_; have zbr := n5_; have zbs := n6_; have zbt := n7_; have zbu := n8_; have zbv := n9_; have zbw := n10_; clear n0_ n1_ n2_ n3_ n4_ n5_ n6_ n7_ n8_ n9_ n10_; clear hb hbox hg; have zbx := zbu.out; have zby := zbt.out; have zbz := zbw.out; have zbA := zbv.out; have zbB : w17.cell? ⟨zbp, 0, none⟩ = some (.bool false) := (blk_cell zbq.out 0).trans rfl; have zbC : w17.cell? ⟨zbp, 1, none⟩ = some (.int .i64 0) := (blk_cell zbq.out 1).trans rfl; have zbD : w17.cell? ⟨zbp, 2, none⟩ = some (.int .i64 0) := (blk_cell zbq.out 2).trans rfl; have zbE : w17.cell? ⟨zbp, 3, none⟩ = some (.string (⟨#[]⟩ : ByteArray)) := (blk_cell zbq.out 3).trans rfl; have zbF := blk_frozen zbq.out 0; have zbG := blk_frozen zbq.out 1; have zbH := blk_frozen zbq.out 2; have zbI := blk_frozen zbq.out 3)))
            (try simp only [Act.put, List.setIfInBounds_toArray, List.set_cons_zero, List.set_cons_succ])
            go_cut [] (fun wc => ∃ (kq : Nat) (zbJ : ByteArray) (zbK : Int) (zbL : Int) (zbM : Int) (zbN : ByteArray), Aside0 (pleachref11_Take_p.j2 kq a0 x4_1 zbJ zbK zbL ((Int.tmod t221 2) == 1) zbM (wrap64 (Int.tdiv t221 2)) zbN = some (r1, r2)) ∧ Aside0 (kq ≤ kj3) ∧ Aside0 (Kd.R k34 34 wc w.heap.size (fun k_ => k_ ≠ zbp) u4 x4_1) ∧ Aside0 (wc.heap[zaF]? = some (.cells #[.string zbJ, .int .i64 zbK, .int .i64 zbL] 62 (0, 0))) ∧ Aside0 (wc.heap[za5]? = some (.cells #[.string t218, .int .i64 t219, .int .i64 t220] 62 (0, 0))) ∧ Aside0 (wc.heap[zbp]? = some (.cells #[.bool ((Int.tmod t221 2) == 1), .int .i64 zbM, .int .i64 (wrap64 (Int.tdiv t221 2)), .string zbN] 34 (0, 0))) ∧ Aside0 (Below w.heap.size w wc))
            case first =>
              have H := HC10.out
              clear HC10
              by_cases c21 : (Int.tmod t221 2) = 1
              · rw [if_pos c21] at H
                have c21b0 : ((Int.tmod t221 2) == 1) = true := beq_iff_eq.mpr c21
                have c21b1 : ((Int.tmod t221 2) != 1) = false := bne_eq_false_iff_eq.mpr c21
                clear c21
                (first | rw [c21b0] | (simp only [i64_w, i32_w]; rw [c21b0]) | skip)
                replace H := Option.bind_eq_some_iff.mp H
                obtain ⟨⟨t224, t225, t226, t227⟩, A220, H⟩ := H
                replace H : (pleachref11_Take_p.j2 kj3 a0 x4_1 t224 t225 t226 ((Int.tmod t221 2) == 1) t227 (wrap64 (Int.tdiv t221 2)) (⟨#[]⟩ : ByteArray)) = some (r1, r2) := H
                have A22 := Aside0.mk A220
                clear A220
                have H' := Aside0.mk H
                clear H
                have zbO := za9.out
                have zbP := zba.out
                have zbQ := zbt.out
                have zbR := zbu.out
                obtain ⟨zbS, zbT, zbU⟩ := M.bc3 (w := w17) (a := .string t218) (b := .int .i64 t219) (c := .int .i64 t220) zaG.out
                obtain ⟨zbV, zbW, zbX⟩ := M.bf3 zaG
                go_wp2_with (first | (go_at_call 36; (with_reducible refine (pleachref04_Num.calls t218 t219 t220 4294967295 t224 t225 t226 t227 _ A22.out).mono ?_); rintro e w26 ⟨rfl, hb⟩; have n0_ := Aside0.mk (Kd.R_below (by (with_reducible repeat (first | apply Kd.R_alloc | apply Kd.R_drewN | apply Kd.R_drew)); exact (Kd.R_mono (Kd.R_far (p := ⟨zbp, 3, none⟩) (Kd.R_far (p := ⟨zbp, 2, none⟩) (Kd.R_far (p := ⟨zbp, 1, none⟩) (Kd.R_far (p := ⟨zbp, 0, none⟩) (Kd.R_mono zaS.out (fun k_ hk => (⟨hk, hk.2⟩ : _ ∧ k_ ≠ zbp))) (fun _ hk => hk.2) (.bool true)) (fun _ hk => hk.2) (.int .i64 0)) (fun _ hk => hk.2) (.int .i64 (wrap64 (Int.tdiv t221 2)))) (fun _ hk => hk.2) (.string (⟨#[]⟩ : ByteArray))) (fun _ h_ => h_.1))) hb); have n1_ := Aside0.mk (blk_below (g := zaF) (o := .cells #[.string t218, .int .i64 t219, .int .i64 t220] 62 (0, 0)) (by (with_reducible repeat (first | refine blk_drewN ?_ _ | refine blk_drew ?_ | refine blk_alloc ?_ _)); refine blk_far ?_ zbt.out _; (with_reducible repeat (first | refine blk_drewN ?_ _ | refine blk_drew ?_ | refine blk_alloc ?_ _)); refine blk_far ?_ zbt.out _; (with_reducible repeat (first | refine blk_drewN ?_ _ | refine blk_drew ?_ | refine blk_alloc ?_ _)); refine blk_far ?_ zbt.out _; (with_reducible repeat (first | refine blk_drewN ?_ _ | refine blk_drew ?_ | refine blk_alloc ?_ _)); refine blk_far ?_ zbt.out _; (with_reducible repeat (first | refine blk_drewN ?_ _ | refine blk_drew ?_ | refine blk_alloc ?_ _)); exact zaG.out) hb); have n2_ := Aside0.mk (blk_below (g := za5) (o := .cells #[.string t218, .int .i64 t219, .int .i64 t220] 62 (0, 0)) (by (with_reducible repeat (first | refine blk_drewN ?_ _ | refine blk_drew ?_ | refine blk_alloc ?_ _)); refine blk_far ?_ zbv.out _; (with_reducible repeat (first | refine blk_drewN ?_ _ | refine blk_drew ?_ | refine blk_alloc ?_ _)); refine blk_far ?_ zbv.out _; (with_reducible repeat (first | refine blk_drewN ?_ _ | refine blk_drew ?_ | refine blk_alloc ?_ _)); refine blk_far ?_ zbv.out _; (with_reducible repeat (first | refine blk_drewN ?_ _ | refine blk_drew ?_ | refine blk_alloc ?_ _)); refine blk_far ?_ zbv.out _; (with_reducible repeat (first | refine blk_drewN ?_ _ | refine blk_drew ?_ | refine blk_alloc ?_ _)); exact za6.out) hb); have n3_ := Aside0.mk (blk_below (g := zbp) (o := .cells #[.bool true, .int .i64 0, .int .i64 (wrap64 (Int.tdiv t221 2)), .string (⟨#[]⟩ : ByteArray)] 34 (0, 0)) (by (with_reducible repeat (first | refine blk_drewN ?_ _ | refine blk_drew ?_ | refine blk_alloc ?_ _)); refine blk_put (cs := #[.bool true, .int .i64 0, .int .i64 (wrap64 (Int.tdiv t221 2)), .string (⟨#[]⟩ : ByteArray)]) ?_ 3 _ rfl; (with_reducible repeat (first | refine blk_drewN ?_ _ | refine blk_drew ?_ | refine blk_alloc ?_ _)); refine blk_put (cs := #[.bool true, .int .i64 0, .int .i64 0, .string (⟨#[]⟩ : ByteArray)]) ?_ 2 _ rfl; (with_reducible repeat (first | refine blk_drewN ?_ _ | refine blk_drew ?_ | refine blk_alloc ?_ _)); refine blk_put (cs := #[.bool true, .int .i64 0, .int .i64 0, .string (⟨#[]⟩ : ByteArray)]) ?_ 1 _ rfl; (with_reducible repeat (first | refine blk_drewN ?_ _ | refine blk_drew ?_ | refine blk_alloc ?_ _)); refine blk_put (cs := #[.bool false, .int .i64 0, .int .i64 0, .string (⟨#[]⟩ : ByteArray)]) ?_ 0 _ rfl; (with_reducible repeat (first | refine blk_drewN ?_ _ | refine blk_drew ?_ | refine blk_alloc ?_ _)); exact zbq.out) hb); have n4_ := M.upS HB hb; clear zaS zaG za6 zbq HB; have zaS := n0_; have zaG := n1_; have za6 := n2_; have zbq := n3_; have HB := n4_; clear n0_ n1_ n2_ n3_ n4_; (try clear hb); (try clear hb2); (try clear hk); (try clear hi); obtain ⟨zbY, zbZ, zb0⟩ := M.bc3 (w := w26) (a := .string t218) (b := .int .i64 t219) (c := .int .i64 t220) zaG.out; obtain ⟨zb1, zb2, zb3⟩ := M.bf3 zaG; have zb4 := zbw.out; have zb5 := zbv.out; have zb6 : w26.cell? ⟨zbp, 0, none⟩ = some (.bool true) := (blk_cell zbq.out 0).trans rfl; have zb7 : w26.cell? ⟨zbp, 1, none⟩ = some (.int .i64 0) := (blk_cell zbq.out 1).trans rfl; have zb8 : w26.cell? ⟨zbp, 2, none⟩ = some (.int .i64 (wrap64 (Int.tdiv t221 2))) := (blk_cell zbq.out 2).trans rfl; have zb9 : w26.cell? ⟨zbp, 3, none⟩ = some (.string (⟨#[]⟩ : ByteArray)) := (blk_cell zbq.out 3).trans rfl; have zca := blk_frozen zbq.out 0; have zcb := blk_frozen zbq.out 1; have zcc := blk_frozen zbq.out 2; have zcd := blk_frozen zbq.out 3))
                repeat (go_quiet (first | (go_at_call 36; (with_reducible refine (pleachref04_Num.calls t218 t219 t220 4294967295 t224 t225 t226 t227 _ A22.out).mono ?_); rintro e w26 ⟨rfl, hb⟩; have n0_ := Aside0.mk (Kd.R_below (by (with_reducible repeat (first | apply Kd.R_alloc | apply Kd.R_drewN | apply Kd.R_drew)); exact (Kd.R_mono (Kd.R_far (p := ⟨zbp, 3, none⟩) (Kd.R_far (p := ⟨zbp, 2, none⟩) (Kd.R_far (p := ⟨zbp, 1, none⟩) (Kd.R_far (p := ⟨zbp, 0, none⟩) (Kd.R_mono zaS.out (fun k_ hk => (⟨hk, hk.2⟩ : _ ∧ k_ ≠ zbp))) (fun _ hk => hk.2) (.bool true)) (fun _ hk => hk.2) (.int .i64 0)) (fun _ hk => hk.2) (.int .i64 (wrap64 (Int.tdiv t221 2)))) (fun _ hk => hk.2) (.string (⟨#[]⟩ : ByteArray))) (fun _ h_ => h_.1))) hb); have n1_ := Aside0.mk (blk_below (g := zaF) (o := .cells #[.string t218, .int .i64 t219, .int .i64 t220] 62 (0, 0)) (by (with_reducible repeat (first | refine blk_drewN ?_ _ | refine blk_drew ?_ | refine blk_alloc ?_ _)); refine blk_far ?_ zbt.out _; (with_reducible repeat (first | refine blk_drewN ?_ _ | refine blk_drew ?_ | refine blk_alloc ?_ _)); refine blk_far ?_ zbt.out _; (with_reducible repeat (first | refine blk_drewN ?_ _ | refine blk_drew ?_ | refine blk_alloc ?_ _)); refine blk_far ?_ zbt.out _; (with_reducible repeat (first | refine blk_drewN ?_ _ | refine blk_drew ?_ | refine blk_alloc ?_ _)); refine blk_far ?_ zbt.out _; (with_reducible repeat (first | refine blk_drewN ?_ _ | refine blk_drew ?_ | refine blk_alloc ?_ _)); exact zaG.out) hb); have n2_ := Aside0.mk (blk_below (g := za5) (o := .cells #[.string t218, .int .i64 t219, .int .i64 t220] 62 (0, 0)) (by (with_reducible repeat (first | refine blk_drewN ?_ _ | refine blk_drew ?_ | refine blk_alloc ?_ _)); refine blk_far ?_ zbv.out _; (with_reducible repeat (first | refine blk_drewN ?_ _ | refine blk_drew ?_ | refine blk_alloc ?_ _)); refine blk_far ?_ zbv.out _; (with_reducible repeat (first | refine blk_drewN ?_ _ | refine blk_drew ?_ | refine blk_alloc ?_ _)); refine blk_far ?_ zbv.out _; (with_reducible repeat (first | refine blk_drewN ?_ _ | refine blk_drew ?_ | refine blk_alloc ?_ _)); refine blk_far ?_ zbv.out _; (with_reducible repeat (first | refine blk_drewN ?_ _ | refine blk_drew ?_ | refine blk_alloc ?_ _)); exact za6.out) hb); have n3_ := Aside0.mk (blk_below (g := zbp) (o := .cells #[.bool true, .int .i64 0, .int .i64 (wrap64 (Int.tdiv t221 2)), .string (⟨#[]⟩ : ByteArray)] 34 (0, 0)) (by (with_reducible repeat (first | refine blk_drewN ?_ _ | refine blk_drew ?_ | refine blk_alloc ?_ _)); refine blk_put (cs := #[.bool true, .int .i64 0, .int .i64 (wrap64 (Int.tdiv t221 2)), .string (⟨#[]⟩ : ByteArray)]) ?_ 3 _ rfl; (with_reducible repeat (first | refine blk_drewN ?_ _ | refine blk_drew ?_ | refine blk_alloc ?_ _)); refine blk_put (cs := #[.bool true, .int .i64 0, .int .i64 0, .string (⟨#[]⟩ : ByteArray)]) ?_ 2 _ rfl; (with_reducible repeat (first | refine blk_drewN ?_ _ | refine blk_drew ?_ | refine blk_alloc ?_ _)); refine blk_put (cs := #[.bool true, .int .i64 0, .int .i64 0, .string (⟨#[]⟩ : ByteArray)]) ?_ 1 _ rfl; (with_reducible repeat (first | refine blk_drewN ?_ _ | refine blk_drew ?_ | refine blk_alloc ?_ _)); refine blk_put (cs := #[.bool false, .int .i64 0, .int .i64 0, .string (⟨#[]⟩ : ByteArray)]) ?_ 0 _ rfl; (with_reducible repeat (first | refine blk_drewN ?_ _ | refine blk_drew ?_ | refine blk_alloc ?_ _)); exact zbq.out) hb); have n4_ := M.upS HB hb; clear zaS zaG za6 zbq HB; have zaS := n0_; have zaG := n1_; have za6 := n2_; have zbq := n3_; have HB := n4_; clear n0_ n1_ n2_ n3_ n4_; (try clear hb); (try clear hb2); (try clear hk); (try clear hi); obtain ⟨zbY, zbZ, zb0⟩ := M.bc3 (w := w26) (a := .string t218) (b := .int .i64 t219) (c := .int .i64 t220) zaG.out; obtain ⟨zb1, zb2, zb3⟩ := M.bf3 zaG; have zb4 := zbw.out; have zb5 := zbv.out; have zb6 : w26.cell? ⟨zbp, 0, none⟩ = some (.bool true) := (blk_cell zbq.out 0).trans rfl; have zb7 : w26.cell? ⟨zbp, 1, none⟩ = some (.int .i64 0) := (blk_cell zbq.out 1).trans rfl; have zb8 : w26.cell? ⟨zbp, 2, none⟩ = some (.int .i64 (wrap64 (Int.tdiv t221 2))) := (blk_cell zbq.out 2).trans rfl; have zb9 : w26.cell? ⟨zbp, 3, none⟩ = some (.string (⟨#[]⟩ : ByteArray)) := (blk_cell zbq.out 3).trans rfl; have zca := blk_frozen zbq.out 0; have zcb := blk_frozen zbq.out 1; have zcc := blk_frozen zbq.out 2; have zcd := blk_frozen zbq.out 3)); try go_wp2_with (first | (go_at_call 36; (with_reducible refine (pleachref04_Num.calls t218 t219 t220 4294967295 t224 t225 t226 t227 _ A22.out).mono ?_); rintro e w26 ⟨rfl, hb⟩; have n0_ := Aside0.mk (Kd.R_below (by (with_reducible repeat (first | apply Kd.R_alloc | apply Kd.R_drewN | apply Kd.R_drew)); exact (Kd.R_mono (Kd.R_far (p := ⟨zbp, 3, none⟩) (Kd.R_far (p := ⟨zbp, 2, none⟩) (Kd.R_far (p := ⟨zbp, 1, none⟩) (Kd.R_far (p := ⟨zbp, 0, none⟩) (Kd.R_mono zaS.out (fun k_ hk => (⟨hk, hk.2⟩ : _ ∧ k_ ≠ zbp))) (fun _ hk => hk.2) (.bool true)) (fun _ hk => hk.2) (.int .i64 0)) (fun _ hk => hk.2) (.int .i64 (wrap64 (Int.tdiv t221 2)))) (fun _ hk => hk.2) (.string (⟨#[]⟩ : ByteArray))) (fun _ h_ => h_.1))) hb); have n1_ := Aside0.mk (blk_below (g := zaF) (o := .cells #[.string t218, .int .i64 t219, .int .i64 t220] 62 (0, 0)) (by (with_reducible repeat (first | refine blk_drewN ?_ _ | refine blk_drew ?_ | refine blk_alloc ?_ _)); refine blk_far ?_ zbt.out _; (with_reducible repeat (first | refine blk_drewN ?_ _ | refine blk_drew ?_ | refine blk_alloc ?_ _)); refine blk_far ?_ zbt.out _; (with_reducible repeat (first | refine blk_drewN ?_ _ | refine blk_drew ?_ | refine blk_alloc ?_ _)); refine blk_far ?_ zbt.out _; (with_reducible repeat (first | refine blk_drewN ?_ _ | refine blk_drew ?_ | refine blk_alloc ?_ _)); refine blk_far ?_ zbt.out _; (with_reducible repeat (first | refine blk_drewN ?_ _ | refine blk_drew ?_ | refine blk_alloc ?_ _)); exact zaG.out) hb); have n2_ := Aside0.mk (blk_below (g := za5) (o := .cells #[.string t218, .int .i64 t219, .int .i64 t220] 62 (0, 0)) (by (with_reducible repeat (first | refine blk_drewN ?_ _ | refine blk_drew ?_ | refine blk_alloc ?_ _)); refine blk_far ?_ zbv.out _; (with_reducible repeat (first | refine blk_drewN ?_ _ | refine blk_drew ?_ | refine blk_alloc ?_ _)); refine blk_far ?_ zbv.out _; (with_reducible repeat (first | refine blk_drewN ?_ _ | refine blk_drew ?_ | refine blk_alloc ?_ _)); refine blk_far ?_ zbv.out _; (with_reducible repeat (first | refine blk_drewN ?_ _ | refine blk_drew ?_ | refine blk_alloc ?_ _)); refine blk_far ?_ zbv.out _; (with_reducible repeat (first | refine blk_drewN ?_ _ | refine blk_drew ?_ | refine blk_alloc ?_ _)); exact za6.out) hb); have n3_ := Aside0.mk (blk_below (g := zbp) (o := .cells #[.bool true, .int .i64 0, .int .i64 (wrap64 (Int.tdiv t221 2)), .string (⟨#[]⟩ : ByteArray)] 34 (0, 0)) (by (with_reducible repeat (first | refine blk_drewN ?_ _ | refine blk_drew ?_ | refine blk_alloc ?_ _)); refine blk_put (cs := #[.bool true, .int .i64 0, .int .i64 (wrap64 (Int.tdiv t221 2)), .string (⟨#[]⟩ : ByteArray)]) ?_ 3 _ rfl; (with_reducible repeat (first | refine blk_drewN ?_ _ | refine blk_drew ?_ | refine blk_alloc ?_ _)); refine blk_put (cs := #[.bool true, .int .i64 0, .int .i64 0, .string (⟨#[]⟩ : ByteArray)]) ?_ 2 _ rfl; (with_reducible repeat (first | refine blk_drewN ?_ _ | refine blk_drew ?_ | refine blk_alloc ?_ _)); refine blk_put (cs := #[.bool true, .int .i64 0, .int .i64 0, .string (⟨#[]⟩ : ByteArray)]) ?_ 1 _ rfl; (with_reducible repeat (first | refine blk_drewN ?_ _ | refine blk_drew ?_ | refine blk_alloc ?_ _)); refine blk_put (cs := #[.bool false, .int .i64 0, .int .i64 0, .string (⟨#[]⟩ : ByteArray)]) ?_ 0 _ rfl; (with_reducible repeat (first | refine blk_drewN ?_ _ | refine blk_drew ?_ | refine blk_alloc ?_ _)); exact zbq.out) hb); have n4_ := M.upS HB hb; clear zaS zaG za6 zbq HB; have zaS := n0_; have zaG := n1_; have za6 := n2_; have zbq := n3_; have HB := n4_; clear n0_ n1_ n2_ n3_ n4_; (try clear hb); (try clear hb2); (try clear hk); (try clear hi); obtain ⟨zbY, zbZ, zb0⟩ := M.bc3 (w := w26) (a := .string t218) (b := .int .i64 t219) (c := .int .i64 t220) zaG.out; obtain ⟨zb1, zb2, zb3⟩ := M.bf3 zaG; have zb4 := zbw.out; have zb5 := zbv.out; have zb6 : w26.cell? ⟨zbp, 0, none⟩ = some (.bool true) := (blk_cell zbq.out 0).trans rfl; have zb7 : w26.cell? ⟨zbp, 1, none⟩ = some (.int .i64 0) := (blk_cell zbq.out 1).trans rfl; have zb8 : w26.cell? ⟨zbp, 2, none⟩ = some (.int .i64 (wrap64 (Int.tdiv t221 2))) := (blk_cell zbq.out 2).trans rfl; have zb9 : w26.cell? ⟨zbp, 3, none⟩ = some (.string (⟨#[]⟩ : ByteArray)) := (blk_cell zbq.out 3).trans rfl; have zca := blk_frozen zbq.out 0; have zcb := blk_frozen zbq.out 1; have zcc := blk_frozen zbq.out 2; have zcd := blk_frozen zbq.out 3)))
                go_meet
                case rel => (try rw [c21b0]); (try rw [c21b0] at H'); exact ⟨_, (t224), (t225), (t226), (t227), ((⟨#[]⟩ : ByteArray)), H', ⟨by have := HK1.out; have := HJ3.out; first | omega | exact Nat.le_refl _⟩, ⟨by (with_reducible repeat (first | apply Kd.R_alloc | apply Kd.R_drewN | apply Kd.R_drew)); exact Kd.R_mono (Kd.R_far (p := ⟨zbp, 1, none⟩) (Kd.R_far (p := ⟨zaF, 2, none⟩) (Kd.R_far (p := ⟨zaF, 1, none⟩) (Kd.R_far (p := ⟨zaF, 0, none⟩) (Kd.R_mono (Kd.R_types zaS.out zaG.out (by decide)) (fun k_ hk => (⟨hk, hk.1.2⟩ : _ ∧ k_ ≠ zbp))) (fun _ hk => hk.1.2) (.string t224)) (fun _ hk => hk.1.2) (.int .i64 t225)) (fun _ hk => hk.1.2) (.int .i64 t226)) (fun _ hk => hk.2) (.int .i64 t227)) (fun _ hk => hk.1.1.2)⟩, ⟨by (with_reducible repeat (first | refine blk_drewN ?_ _ | refine blk_drew ?_ | refine blk_alloc ?_ _)); refine blk_far ?_ zbt.out _; (with_reducible repeat (first | refine blk_drewN ?_ _ | refine blk_drew ?_ | refine blk_alloc ?_ _)); refine blk_put (cs := #[.string t224, .int .i64 t225, .int .i64 t220]) ?_ 2 _ rfl; (with_reducible repeat (first | refine blk_drewN ?_ _ | refine blk_drew ?_ | refine blk_alloc ?_ _)); refine blk_put (cs := #[.string t224, .int .i64 t219, .int .i64 t220]) ?_ 1 _ rfl; (with_reducible repeat (first | refine blk_drewN ?_ _ | refine blk_drew ?_ | refine blk_alloc ?_ _)); refine blk_put (cs := #[.string t218, .int .i64 t219, .int .i64 t220]) ?_ 0 _ rfl; (with_reducible repeat (first | refine blk_drewN ?_ _ | refine blk_drew ?_ | refine blk_alloc ?_ _)); exact zaG.out⟩, ⟨by (with_reducible repeat (first | refine blk_drewN ?_ _ | refine blk_drew ?_ | refine blk_alloc ?_ _)); refine blk_far ?_ zbv.out _; (with_reducible repeat (first | refine blk_drewN ?_ _ | refine blk_drew ?_ | refine blk_alloc ?_ _)); refine blk_far ?_ zba.out _; (with_reducible repeat (first | refine blk_drewN ?_ _ | refine blk_drew ?_ | refine blk_alloc ?_ _)); refine blk_far ?_ zba.out _; (with_reducible repeat (first | refine blk_drewN ?_ _ | refine blk_drew ?_ | refine blk_alloc ?_ _)); refine blk_far ?_ zba.out _; (with_reducible repeat (first | refine blk_drewN ?_ _ | refine blk_drew ?_ | refine blk_alloc ?_ _)); exact za6.out⟩, ⟨by (with_reducible repeat (first | refine blk_drewN ?_ _ | refine blk_drew ?_ | refine blk_alloc ?_ _)); refine blk_put (cs := #[.bool true, .int .i64 0, .int .i64 (wrap64 (Int.tdiv t221 2)), .string (⟨#[]⟩ : ByteArray)]) ?_ 1 _ rfl; (with_reducible repeat (first | refine blk_drewN ?_ _ | refine blk_drew ?_ | refine blk_alloc ?_ _)); refine blk_far ?_ zbu.out _; (with_reducible repeat (first | refine blk_drewN ?_ _ | refine blk_drew ?_ | refine blk_alloc ?_ _)); refine blk_far ?_ zbu.out _; (with_reducible repeat (first | refine blk_drewN ?_ _ | refine blk_drew ?_ | refine blk_alloc ?_ _)); refine blk_far ?_ zbu.out _; (with_reducible repeat (first | refine blk_drewN ?_ _ | refine blk_drew ?_ | refine blk_alloc ?_ _)); exact zbq.out⟩, ⟨M.up HB⟩⟩
              · rw [if_neg c21] at H
                have c21b0 : ((Int.tmod t221 2) == 1) = false := beq_eq_false_iff_ne.mpr c21
                have c21b1 : ((Int.tmod t221 2) != 1) = true := bne_iff_ne.mpr c21
                (first | rw [c21b0] | (simp only [i64_w, i32_w]; rw [c21b0]) | skip)
                replace H := Option.bind_eq_some_iff.mp H
                obtain ⟨⟨t228, t229, t230, t231⟩, A300, H⟩ := H
                replace H : (pleachref11_Take_p.j2 kj3 a0 x4_1 t228 t229 t230 ((Int.tmod t221 2) == 1) 0 (wrap64 (Int.tdiv t221 2)) t231) = some (r1, r2) := H
                have A30 := Aside0.mk A300
                clear A300
                have H' := Aside0.mk H
                clear H
                have zce := za9.out
                have zcf := zba.out
                have zcg := zbt.out
                have zch := zbu.out
                obtain ⟨zci, zcj, zck⟩ := M.bc3 (w := w17) (a := .string t218) (b := .int .i64 t219) (c := .int .i64 t220) zaG.out
                obtain ⟨zcl, zcm, zcn⟩ := M.bf3 zaG
                have zco := zbw.out
                have zcp := zbv.out
                have zcq : w17.cell? ⟨zbp, 0, none⟩ = some (.bool false) := (blk_cell zbq.out 0).trans rfl
                have zcr : w17.cell? ⟨zbp, 1, none⟩ = some (.int .i64 0) := (blk_cell zbq.out 1).trans rfl
                have zcs : w17.cell? ⟨zbp, 2, none⟩ = some (.int .i64 0) := (blk_cell zbq.out 2).trans rfl
                have zct : w17.cell? ⟨zbp, 3, none⟩ = some (.string (⟨#[]⟩ : ByteArray)) := (blk_cell zbq.out 3).trans rfl
                have zcu := blk_frozen zbq.out 0
                have zcv := blk_frozen zbq.out 1
                have zcw := blk_frozen zbq.out 2
                have zcx := blk_frozen zbq.out 3
                go_wp2_with (first | (go_at_call 37; (with_reducible refine (pleachref04_Fix.calls t218 t219 t220 (wrap64 (Int.tdiv t221 2)) t228 t229 t230 t231 _ A30.out).mono ?_); rintro e w36 ⟨rfl, hb⟩; have n0_ := Aside0.mk (Kd.R_below (by (with_reducible repeat (first | apply Kd.R_alloc | apply Kd.R_drewN | apply Kd.R_drew)); exact (Kd.R_mono (Kd.R_far (p := ⟨zbp, 3, none⟩) (Kd.R_far (p := ⟨zbp, 2, none⟩) (Kd.R_far (p := ⟨zbp, 1, none⟩) (Kd.R_far (p := ⟨zbp, 0, none⟩) (Kd.R_mono zaS.out (fun k_ hk => (⟨hk, hk.2⟩ : _ ∧ k_ ≠ zbp))) (fun _ hk => hk.2) (.bool false)) (fun _ hk => hk.2) (.int .i64 0)) (fun _ hk => hk.2) (.int .i64 (wrap64 (Int.tdiv t221 2)))) (fun _ hk => hk.2) (.string (⟨#[]⟩ : ByteArray))) (fun _ h_ => h_.1))) hb); have n1_ := Aside0.mk (blk_below (g := zaF) (o := .cells #[.string t218, .int .i64 t219, .int .i64 t220] 62 (0, 0)) (by (with_reducible repeat (first | refine blk_drewN ?_ _ | refine blk_drew ?_ | refine blk_alloc ?_ _)); refine blk_far ?_ zbt.out _; (with_reducible repeat (first | refine blk_drewN ?_ _ | refine blk_drew ?_ | refine blk_alloc ?_ _)); refine blk_far ?_ zbt.out _; (with_reducible repeat (first | refine blk_drewN ?_ _ | refine blk_drew ?_ | refine blk_alloc ?_ _)); refine blk_far ?_ zbt.out _; (with_reducible repeat (first | refine blk_drewN ?_ _ | refine blk_drew ?_ | refine blk_alloc ?_ _)); refine blk_far ?_ zbt.out _; (with_reducible repeat (first | refine blk_drewN ?_ _ | refine blk_drew ?_ | refine blk_alloc ?_ _)); exact zaG.out) hb); have n2_ := Aside0.mk (blk_below (g := za5) (o := .cells #[.string t218, .int .i64 t219, .int .i64 t220] 62 (0, 0)) (by (with_reducible repeat (first | refine blk_drewN ?_ _ | refine blk_drew ?_ | refine blk_alloc ?_ _)); refine blk_far ?_ zbv.out _; (with_reducible repeat (first | refine blk_drewN ?_ _ | refine blk_drew ?_ | refine blk_alloc ?_ _)); refine blk_far ?_ zbv.out _; (with_reducible repeat (first | refine blk_drewN ?_ _ | refine blk_drew ?_ | refine blk_alloc ?_ _)); refine blk_far ?_ zbv.out _; (with_reducible repeat (first | refine blk_drewN ?_ _ | refine blk_drew ?_ | refine blk_alloc ?_ _)); refine blk_far ?_ zbv.out _; (with_reducible repeat (first | refine blk_drewN ?_ _ | refine blk_drew ?_ | refine blk_alloc ?_ _)); exact za6.out) hb); have n3_ := Aside0.mk (blk_below (g := zbp) (o := .cells #[.bool false, .int .i64 0, .int .i64 (wrap64 (Int.tdiv t221 2)), .string (⟨#[]⟩ : ByteArray)] 34 (0, 0)) (by (with_reducible repeat (first | refine blk_drewN ?_ _ | refine blk_drew ?_ | refine blk_alloc ?_ _)); refine blk_put (cs := #[.bool false, .int .i64 0, .int .i64 (wrap64 (Int.tdiv t221 2)), .string (⟨#[]⟩ : ByteArray)]) ?_ 3 _ rfl; (with_reducible repeat (first | refine blk_drewN ?_ _ | refine blk_drew ?_ | refine blk_alloc ?_ _)); refine blk_put (cs := #[.bool false, .int .i64 0, .int .i64 0, .string (⟨#[]⟩ : ByteArray)]) ?_ 2 _ rfl; (with_reducible repeat (first | refine blk_drewN ?_ _ | refine blk_drew ?_ | refine blk_alloc ?_ _)); refine blk_put (cs := #[.bool false, .int .i64 0, .int .i64 0, .string (⟨#[]⟩ : ByteArray)]) ?_ 1 _ rfl; (with_reducible repeat (first | refine blk_drewN ?_ _ | refine blk_drew ?_ | refine blk_alloc ?_ _)); refine blk_put (cs := #[.bool false, .int .i64 0, .int .i64 0, .string (⟨#[]⟩ : ByteArray)]) ?_ 0 _ rfl; (with_reducible repeat (first | refine blk_drewN ?_ _ | refine blk_drew ?_ | refine blk_alloc ?_ _)); exact zbq.out) hb); have n4_ := M.upS HB hb; clear zaS zaG za6 zbq HB; have zaS := n0_; have zaG := n1_; have za6 := n2_; have zbq := n3_; have HB := n4_; clear n0_ n1_ n2_ n3_ n4_; (try clear hb); (try clear hb2); (try clear hk); (try clear hi); obtain ⟨zcy, zcz, zcA⟩ := M.bc3 (w := w36) (a := .string t218) (b := .int .i64 t219) (c := .int .i64 t220) zaG.out; obtain ⟨zcB, zcC, zcD⟩ := M.bf3 zaG; have zcE : w36.cell? ⟨zbp, 0, none⟩ = some (.bool false) := (blk_cell zbq.out 0).trans rfl; have zcF : w36.cell? ⟨zbp, 1, none⟩ = some (.int .i64 0) := (blk_cell zbq.out 1).trans rfl; have zcG : w36.cell? ⟨zbp, 2, none⟩ = some (.int .i64 (wrap64 (Int.tdiv t221 2))) := (blk_cell zbq.out 2).trans rfl; have zcH : w36.cell? ⟨zbp, 3, none⟩ = some (.string (⟨#[]⟩ : ByteArray)) := (blk_cell zbq.out 3).trans rfl; have zcI := blk_frozen zbq.out 0; have zcJ := blk_frozen zbq.out 1; have zcK := blk_frozen zbq.out 2; have zcL := blk_frozen zbq.out 3))
                repeat (go_quiet (first | (go_at_call 37; (with_reducible refine (pleachref04_Fix.calls t218 t219 t220 (wrap64 (Int.tdiv t221 2)) t228 t229 t230 t231 _ A30.out).mono ?_); rintro e w36 ⟨rfl, hb⟩; have n0_ := Aside0.mk (Kd.R_below (by (with_reducible repeat (first | apply Kd.R_alloc | apply Kd.R_drewN | apply Kd.R_drew)); exact (Kd.R_mono (Kd.R_far (p := ⟨zbp, 3, none⟩) (Kd.R_far (p := ⟨zbp, 2, none⟩) (Kd.R_far (p := ⟨zbp, 1, none⟩) (Kd.R_far (p := ⟨zbp, 0, none⟩) (Kd.R_mono zaS.out (fun k_ hk => (⟨hk, hk.2⟩ : _ ∧ k_ ≠ zbp))) (fun _ hk => hk.2) (.bool false)) (fun _ hk => hk.2) (.int .i64 0)) (fun _ hk => hk.2) (.int .i64 (wrap64 (Int.tdiv t221 2)))) (fun _ hk => hk.2) (.string (⟨#[]⟩ : ByteArray))) (fun _ h_ => h_.1))) hb); have n1_ := Aside0.mk (blk_below (g := zaF) (o := .cells #[.string t218, .int .i64 t219, .int .i64 t220] 62 (0, 0)) (by (with_reducible repeat (first | refine blk_drewN ?_ _ | refine blk_drew ?_ | refine blk_alloc ?_ _)); refine blk_far ?_ zbt.out _; (with_reducible repeat (first | refine blk_drewN ?_ _ | refine blk_drew ?_ | refine blk_alloc ?_ _)); refine blk_far ?_ zbt.out _; (with_reducible repeat (first | refine blk_drewN ?_ _ | refine blk_drew ?_ | refine blk_alloc ?_ _)); refine blk_far ?_ zbt.out _; (with_reducible repeat (first | refine blk_drewN ?_ _ | refine blk_drew ?_ | refine blk_alloc ?_ _)); refine blk_far ?_ zbt.out _; (with_reducible repeat (first | refine blk_drewN ?_ _ | refine blk_drew ?_ | refine blk_alloc ?_ _)); exact zaG.out) hb); have n2_ := Aside0.mk (blk_below (g := za5) (o := .cells #[.string t218, .int .i64 t219, .int .i64 t220] 62 (0, 0)) (by (with_reducible repeat (first | refine blk_drewN ?_ _ | refine blk_drew ?_ | refine blk_alloc ?_ _)); refine blk_far ?_ zbv.out _; (with_reducible repeat (first | refine blk_drewN ?_ _ | refine blk_drew ?_ | refine blk_alloc ?_ _)); refine blk_far ?_ zbv.out _; (with_reducible repeat (first | refine blk_drewN ?_ _ | refine blk_drew ?_ | refine blk_alloc ?_ _)); refine blk_far ?_ zbv.out _; (with_reducible repeat (first | refine blk_drewN ?_ _ | refine blk_drew ?_ | refine blk_alloc ?_ _)); refine blk_far ?_ zbv.out _; (with_reducible repeat (first | refine blk_drewN ?_ _ | refine blk_drew ?_ | refine blk_alloc ?_ _)); exact za6.out) hb); have n3_ := Aside0.mk (blk_below (g := zbp) (o := .cells #[.bool false, .int .i64 0, .int .i64 (wrap64 (Int.tdiv t221 2)), .string (⟨#[]⟩ : ByteArray)] 34 (0, 0)) (by (with_reducible repeat (first | refine blk_drewN ?_ _ | refine blk_drew ?_ | refine blk_alloc ?_ _)); refine blk_put (cs := #[.bool false, .int .i64 0, .int .i64 (wrap64 (Int.tdiv t221 2)), .string (⟨#[]⟩ : ByteArray)]) ?_ 3 _ rfl; (with_reducible repeat (first | refine blk_drewN ?_ _ | refine blk_drew ?_ | refine blk_alloc ?_ _)); refine blk_put (cs := #[.bool false, .int .i64 0, .int .i64 0, .string (⟨#[]⟩ : ByteArray)]) ?_ 2 _ rfl; (with_reducible repeat (first | refine blk_drewN ?_ _ | refine blk_drew ?_ | refine blk_alloc ?_ _)); refine blk_put (cs := #[.bool false, .int .i64 0, .int .i64 0, .string (⟨#[]⟩ : ByteArray)]) ?_ 1 _ rfl; (with_reducible repeat (first | refine blk_drewN ?_ _ | refine blk_drew ?_ | refine blk_alloc ?_ _)); refine blk_put (cs := #[.bool false, .int .i64 0, .int .i64 0, .string (⟨#[]⟩ : ByteArray)]) ?_ 0 _ rfl; (with_reducible repeat (first | refine blk_drewN ?_ _ | refine blk_drew ?_ | refine blk_alloc ?_ _)); exact zbq.out) hb); have n4_ := M.upS HB hb; clear zaS zaG za6 zbq HB; have zaS := n0_; have zaG := n1_; have za6 := n2_; have zbq := n3_; have HB := n4_; clear n0_ n1_ n2_ n3_ n4_; (try clear hb); (try clear hb2); (try clear hk); (try clear hi); obtain ⟨zcy, zcz, zcA⟩ := M.bc3 (w := w36) (a := .string t218) (b := .int .i64 t219) (c := .int .i64 t220) zaG.out; obtain ⟨zcB, zcC, zcD⟩ := M.bf3 zaG; have zcE : w36.cell? ⟨zbp, 0, none⟩ = some (.bool false) := (blk_cell zbq.out 0).trans rfl; have zcF : w36.cell? ⟨zbp, 1, none⟩ = some (.int .i64 0) := (blk_cell zbq.out 1).trans rfl; have zcG : w36.cell? ⟨zbp, 2, none⟩ = some (.int .i64 (wrap64 (Int.tdiv t221 2))) := (blk_cell zbq.out 2).trans rfl; have zcH : w36.cell? ⟨zbp, 3, none⟩ = some (.string (⟨#[]⟩ : ByteArray)) := (blk_cell zbq.out 3).trans rfl; have zcI := blk_frozen zbq.out 0; have zcJ := blk_frozen zbq.out 1; have zcK := blk_frozen zbq.out 2; have zcL := blk_frozen zbq.out 3)); try go_wp2_with (first | (go_at_call 37; (with_reducible refine (pleachref04_Fix.calls t218 t219 t220 (wrap64 (Int.tdiv t221 2)) t228 t229 t230 t231 _ A30.out).mono ?_); rintro e w36 ⟨rfl, hb⟩; have n0_ := Aside0.mk (Kd.R_below (by (with_reducible repeat (first | apply Kd.R_alloc | apply Kd.R_drewN | apply Kd.R_drew)); exact (Kd.R_mono (Kd.R_far (p := ⟨zbp, 3, none⟩) (Kd.R_far (p := ⟨zbp, 2, none⟩) (Kd.R_far (p := ⟨zbp, 1, none⟩) (Kd.R_far (p := ⟨zbp, 0, none⟩) (Kd.R_mono zaS.out (fun k_ hk => (⟨hk, hk.2⟩ : _ ∧ k_ ≠ zbp))) (fun _ hk => hk.2) (.bool false)) (fun _ hk => hk.2) (.int .i64 0)) (fun _ hk => hk.2) (.int .i64 (wrap64 (Int.tdiv t221 2)))) (fun _ hk => hk.2) (.string (⟨#[]⟩ : ByteArray))) (fun _ h_ => h_.1))) hb); have n1_ := Aside0.mk (blk_below (g := zaF) (o := .cells #[.string t218, .int .i64 t219, .int .i64 t220] 62 (0, 0)) (by (with_reducible repeat (first | refine blk_drewN ?_ _ | refine blk_drew ?_ | refine blk_alloc ?_ _)); refine blk_far ?_ zbt.out _; (with_reducible repeat (first | refine blk_drewN ?_ _ | refine blk_drew ?_ | refine blk_alloc ?_ _)); refine blk_far ?_ zbt.out _; (with_reducible repeat (first | refine blk_drewN ?_ _ | refine blk_drew ?_ | refine blk_alloc ?_ _)); refine blk_far ?_ zbt.out _; (with_reducible repeat (first | refine blk_drewN ?_ _ | refine blk_drew ?_ | refine blk_alloc ?_ _)); refine blk_far ?_ zbt.out _; (with_reducible repeat (first | refine blk_drewN ?_ _ | refine blk_drew ?_ | refine blk_alloc ?_ _)); exact zaG.out) hb); have n2_ := Aside0.mk (blk_below (g := za5) (o := .cells #[.string t218, .int .i64 t219, .int .i64 t220] 62 (0, 0)) (by (with_reducible repeat (first | refine blk_drewN ?_ _ | refine blk_drew ?_ | refine blk_alloc ?_ _)); refine blk_far ?_ zbv.out _; (with_reducible repeat (first | refine blk_drewN ?_ _ | refine blk_drew ?_ | refine blk_alloc ?_ _)); refine blk_far ?_ zbv.out _; (with_reducible repeat (first | refine blk_drewN ?_ _ | refine blk_drew ?_ | refine blk_alloc ?_ _)); refine blk_far ?_ zbv.out _; (with_reducible repeat (first | refine blk_drewN ?_ _ | refine blk_drew ?_ | refine blk_alloc ?_ _)); refine blk_far ?_ zbv.out _; (with_reducible repeat (first | refine blk_drewN ?_ _ | refine blk_drew ?_ | refine blk_alloc ?_ _)); exact za6.out) hb); have n3_ := Aside0.mk (blk_below (g := zbp) (o := .cells #[.bool false, .int .i64 0, .int .i64 (wrap64 (Int.tdiv t221 2)), .string (⟨#[]⟩ : ByteArray)] 34 (0, 0)) (by (with_reducible repeat (first | refine blk_drewN ?_ _ | refine blk_drew ?_ | refine blk_alloc ?_ _)); refine blk_put (cs := #[.bool false, .int .i64 0, .int .i64 (wrap64 (Int.tdiv t221 2)), .string (⟨#[]⟩ : ByteArray)]) ?_ 3 _ rfl; (with_reducible repeat (first | refine blk_drewN ?_ _ | refine blk_drew ?_ | refine blk_alloc ?_ _)); refine blk_put (cs := #[.bool false, .int .i64 0, .int .i64 0, .string (⟨#[]⟩ : ByteArray)]) ?_ 2 _ rfl; (with_reducible repeat (first | refine blk_drewN ?_ _ | refine blk_drew ?_ | refine blk_alloc ?_ _)); refine blk_put (cs := #[.bool false, .int .i64 0, .int .i64 0, .string (⟨#[]⟩ : ByteArray)]) ?_ 1 _ rfl; (with_reducible repeat (first | refine blk_drewN ?_ _ | refine blk_drew ?_ | refine blk_alloc ?_ _)); refine blk_put (cs := #[.bool false, .int .i64 0, .int .i64 0, .string (⟨#[]⟩ : ByteArray)]) ?_ 0 _ rfl; (with_reducible repeat (first | refine blk_drewN ?_ _ | refine blk_drew ?_ | refine blk_alloc ?_ _)); exact zbq.out) hb); have n4_ := M.upS HB hb; clear zaS zaG za6 zbq HB; have zaS := n0_; have zaG := n1_; have za6 := n2_; have zbq := n3_; have HB := n4_; clear n0_ n1_ n2_ n3_ n4_; (try clear hb); (try clear hb2); (try clear hk); (try clear hi); obtain ⟨zcy, zcz, zcA⟩ := M.bc3 (w := w36) (a := .string t218) (b := .int .i64 t219) (c := .int .i64 t220) zaG.out; obtain ⟨zcB, zcC, zcD⟩ := M.bf3 zaG; have zcE : w36.cell? ⟨zbp, 0, none⟩ = some (.bool false) := (blk_cell zbq.out 0).trans rfl; have zcF : w36.cell? ⟨zbp, 1, none⟩ = some (.int .i64 0) := (blk_cell zbq.out 1).trans rfl; have zcG : w36.cell? ⟨zbp, 2, none⟩ = some (.int .i64 (wrap64 (Int.tdiv t221 2))) := (blk_cell zbq.out 2).trans rfl; have zcH : w36.cell? ⟨zbp, 3, none⟩ = some (.string (⟨#[]⟩ : ByteArray)) := (blk_cell zbq.out 3).trans rfl; have zcI := blk_frozen zbq.out 0; have zcJ := blk_frozen zbq.out 1; have zcK := blk_frozen zbq.out 2; have zcL := blk_frozen zbq.out 3)))
                go_meet
                case rel => (try rw [c21b0]); (try rw [c21b0] at H'); exact ⟨_, (t228), (t229), (t230), (0), (t231), H', ⟨by have := HK1.out; have := HJ3.out; first | omega | exact Nat.le_refl _⟩, ⟨by (with_reducible repeat (first | apply Kd.R_alloc | apply Kd.R_drewN | apply Kd.R_drew)); exact Kd.R_mono (Kd.R_far (p := ⟨zbp, 3, none⟩) (Kd.R_far (p := ⟨zaF, 2, none⟩) (Kd.R_far (p := ⟨zaF, 1, none⟩) (Kd.R_far (p := ⟨zaF, 0, none⟩) (Kd.R_mono (Kd.R_types zaS.out zaG.out (by decide)) (fun k_ hk => (⟨hk, hk.1.2⟩ : _ ∧ k_ ≠ zbp))) (fun _ hk => hk.1.2) (.string t228)) (fun _ hk => hk.1.2) (.int .i64 t229)) (fun _ hk => hk.1.2) (.int .i64 t230)) (fun _ hk => hk.2) (.string t231)) (fun _ hk => hk.1.1.2)⟩, ⟨by (with_reducible repeat (first | refine blk_drewN ?_ _ | refine blk_drew ?_ | refine blk_alloc ?_ _)); refine blk_far ?_ zbt.out _; (with_reducible repeat (first | refine blk_drewN ?_ _ | refine blk_drew ?_ | refine blk_alloc ?_ _)); refine blk_put (cs := #[.string t228, .int .i64 t229, .int .i64 t220]) ?_ 2 _ rfl; (with_reducible repeat (first | refine blk_drewN ?_ _ | refine blk_drew ?_ | refine blk_alloc ?_ _)); refine blk_put (cs := #[.string t228, .int .i64 t219, .int .i64 t220]) ?_ 1 _ rfl; (with_reducible repeat (first | refine blk_drewN ?_ _ | refine blk_drew ?_ | refine blk_alloc ?_ _)); refine blk_put (cs := #[.string t218, .int .i64 t219, .int .i64 t220]) ?_ 0 _ rfl; (with_reducible repeat (first | refine blk_drewN ?_ _ | refine blk_drew ?_ | refine blk_alloc ?_ _)); exact zaG.out⟩, ⟨by (with_reducible repeat (first | refine blk_drewN ?_ _ | refine blk_drew ?_ | refine blk_alloc ?_ _)); refine blk_far ?_ zbv.out _; (with_reducible repeat (first | refine blk_drewN ?_ _ | refine blk_drew ?_ | refine blk_alloc ?_ _)); refine blk_far ?_ zba.out _; (with_reducible repeat (first | refine blk_drewN ?_ _ | refine blk_drew ?_ | refine blk_alloc ?_ _)); refine blk_far ?_ zba.out _; (with_reducible repeat (first | refine blk_drewN ?_ _ | refine blk_drew ?_ | refine blk_alloc ?_ _)); refine blk_far ?_ zba.out _; (with_reducible repeat (first | refine blk_drewN ?_ _ | refine blk_drew ?_ | refine blk_alloc ?_ _)); exact za6.out⟩, ⟨by (with_reducible repeat (first | refine blk_drewN ?_ _ | refine blk_drew ?_ | refine blk_alloc ?_ _)); refine blk_put (cs := #[.bool false, .int .i64 0, .int .i64 (wrap64 (Int.tdiv t221 2)), .string (⟨#[]⟩ : ByteArray)]) ?_ 3 _ rfl; (with_reducible repeat (first | refine blk_drewN ?_ _ | refine blk_drew ?_ | refine blk_alloc ?_ _)); refine blk_far ?_ zbu.out _; (with_reducible repeat (first | refine blk_drewN ?_ _ | refine blk_drew ?_ | refine blk_alloc ?_ _)); refine blk_far ?_ zbu.out _; (with_reducible repeat (first | refine blk_drewN ?_ _ | refine blk_drew ?_ | refine blk_alloc ?_ _)); refine blk_far ?_ zbu.out _; (with_reducible repeat (first | refine blk_drewN ?_ _ | refine blk_drew ?_ | refine blk_alloc ?_ _)); exact zbq.out⟩, ⟨M.up HB⟩⟩
            case rest =>
              clear HC10
              try clear c1
              try clear c2
              try clear p2
              try clear c3
              try clear c5
              try clear c5b0
              try clear c5b1
              try clear p6
              try clear c8
              try clear c14
              try clear c18
              try clear c19
              try clear c20
              try clear c21
              try clear c21b0
              try clear c21b1
              try clear c23
              try clear c24
              try clear c28
              try clear c31
              try clear c32
              try clear c34
              try clear zaZ
              try clear za0
              try clear za1
              try clear zbd
              try clear zbe
              try clear zbf
              try clear zbj
              try clear zbk
              try clear zbl
              try clear zbB
              try clear zbC
              try clear zbD
              try clear zbE
              try clear zbS
              try clear zbT
              try clear zbU
              try clear zbY
              try clear zbZ
              try clear zb0
              try clear zb6
              try clear zb7
              try clear zb8
              try clear zb9
              try clear zci
              try clear zcj
              try clear zck
              try clear zcq
              try clear zcr
              try clear zcs
              try clear zct
              try clear zcy
              try clear zcz
              try clear zcA
              try clear zcE
              try clear zcF
              try clear zcG
              try clear zcH
              try clear zaJ
              try clear zaK
              try clear zaL
              try clear zaT
              try clear zaU
              try clear zaV
              try clear zam
              try clear zan
              try clear zao
              try clear za2
              try clear za3
              try clear za4
              try clear zbg
              try clear zbh
              try clear zbi
              try clear zbm
              try clear zbn
              try clear zbo
              try clear zbF
              try clear zbG
              try clear zbH
              try clear zbI
              try clear zbV
              try clear zbW
              try clear zbX
              try clear zb1
              try clear zb2
              try clear zb3
              try clear zca
              try clear zcb
              try clear zcc
              try clear zcd
              try clear zcl
              try clear zcm
              try clear zcn
              try clear zcu
              try clear zcv
              try clear zcw
              try clear zcx
              try clear zcB
              try clear zcC
              try clear zcD
              try clear zcI
              try clear zcJ
              try clear zcK
              try clear zcL
              try clear zaM
              try clear zaN
              try clear zaO
              try clear zaW
              try clear zaX
              try clear zaY
              try clear zap
              try clear zaq
              try clear zar
              try clear p2
              obtain ⟨kq, zbJ, zbK, zbL, zbM, zbN, HA, HJ9, zaS, zaG, za6, zbq, HB⟩ := hcut
              cases kq with
              | zero => exact absurd HA.out (by simp [pleachref11_Take_p.j2])
              | succ kj9 =>
                have H := HA.out
                clear HA
                simp only [pleachref11_Take_p.j2] at H
                by_cases c39 : zbL = 0
                · rw [if_pos c39] at H
                  have c39b0 : (zbL == 0) = true := beq_iff_eq.mpr c39
                  have c39b1 : (zbL != 0) = false := bne_eq_false_iff_eq.mpr c39
                  clear c39
                  replace H := Option.bind_eq_some_iff.mp H
                  obtain ⟨t232, A400, H⟩ := H
                  replace H : (if t232 = true then (if x4_1.length < 3518437208883 then (pleachref11_Take_p.l0 kj9 a0 (x4_1 ++ [(⟨((Int.tmod t221 2) == 1), zbM, (wrap64 (Int.tdiv t221 2)), zbN⟩ : S34)]) zbJ zbK zbL) else (none)) else (some (([] : List (S34)), false))) = some (r1, r2) := H
                  have A40 := Aside0.mk A400
                  clear A400
                  by_cases c41 : t232 = true
                  · subst c41
                    have H1 : (if x4_1.length < 3518437208883 then (pleachref11_Take_p.l0 kj9 a0 (x4_1 ++ [(⟨((Int.tmod t221 2) == 1), zbM, (wrap64 (Int.tdiv t221 2)), zbN⟩ : S34)]) zbJ zbK zbL) else (none)) = some (r1, r2) := by rw [if_pos rfl] at H; exact H
                    clear H
                    have H := H1
                    clear H1
                    by_cases c42 : x4_1.length < 3518437208883
                    · rw [if_pos c42] at H
                      have LMc42 := Aside0.mk c42
                      clear c42
                      obtain ⟨y233, hy233⟩ : ∃ y_ : List (S34), y_ = (x4_1 ++ [(⟨((Int.tmod t221 2) == 1), zbM, (wrap64 (Int.tdiv t221 2)), zbN⟩ : S34)]) := ⟨_, rfl⟩
                      replace H : (pleachref11_Take_p.l0 kj9 a0 y233 zbJ zbK zbL) = some (r1, r2) := by first | (rw [hy233]; with_reducible exact H) | (have H2_ := (Option.bind_some _ _).symm.trans H; rw [hy233]; with_reducible exact H2_) | (have H2_ := (Option.bind_some _ _).symm.trans H; with_reducible exact H2_) | with_reducible exact H | (rw [hy233]; exact H) | exact H
                      have Ny233 := Aside0.mk hy233
                      clear hy233
                      have H' := Aside0.mk H
                      clear H
                      have zcM := za9.out
                      have zcN := zba.out
                      have zcO := zbt.out
                      have zcP := zbu.out
                      obtain ⟨zcQ, zcR, zcS⟩ := M.bc3 (w := wc) (a := .string zbJ) (b := .int .i64 zbK) (c := .int .i64 zbL) zaG.out
                      obtain ⟨zcT, zcU, zcV⟩ := M.bf3 zaG
                      have zcW := zbw.out
                      have zcX := zbv.out
                      have zcY : wc.cell? ⟨zbp, 0, none⟩ = some (.bool ((Int.tmod t221 2) == 1)) := (blk_cell zbq.out 0).trans rfl
                      have zcZ : wc.cell? ⟨zbp, 1, none⟩ = some (.int .i64 zbM) := (blk_cell zbq.out 1).trans rfl
                      have zc0 : wc.cell? ⟨zbp, 2, none⟩ = some (.int .i64 (wrap64 (Int.tdiv t221 2))) := (blk_cell zbq.out 2).trans rfl
                      have zc1 : wc.cell? ⟨zbp, 3, none⟩ = some (.string zbN) := (blk_cell zbq.out 3).trans rfl
                      have zc2 := blk_frozen zbq.out 0
                      have zc3 := blk_frozen zbq.out 1
                      have zc4 := blk_frozen zbq.out 2
                      have zc5 := blk_frozen zbq.out 3
                      go_wp2_with (first | (go_at_call 15; (with_reducible refine (pleachref11_Is.calls ((Int.tmod t221 2) == 1) zbM (wrap64 (Int.tdiv t221 2)) zbN true _ A40.out).mono ?_); rintro e w48 ⟨rfl, hb⟩; have n0_ := M.roB zaS hb; have n1_ := M.bkB zaG hb; have n2_ := M.bkB za6 hb; have n3_ := M.bkB zbq hb; have n4_ := M.upS HB hb; clear zaS zaG za6 zbq HB; have zaS := n0_; have zaG := n1_; have za6 := n2_; have zbq := n3_; have HB := n4_; clear n0_ n1_ n2_ n3_ n4_; (try clear hb); (try clear hb2); (try clear hk); (try clear hi); have zc6 : w48.cell? ⟨zbp, 0, none⟩ = some (.bool ((Int.tmod t221 2) == 1)) := (blk_cell zbq.out 0).trans rfl; have zc7 : w48.cell? ⟨zbp, 1, none⟩ = some (.int .i64 zbM) := (blk_cell zbq.out 1).trans rfl; have zc8 : w48.cell? ⟨zbp, 2, none⟩ = some (.int .i64 (wrap64 (Int.tdiv t221 2))) := (blk_cell zbq.out 2).trans rfl; have zc9 : w48.cell? ⟨zbp, 3, none⟩ = some (.string zbN) := (blk_cell zbq.out 3).trans rfl; have zda := blk_frozen zbq.out 0; have zdb := blk_frozen zbq.out 1; have zdc := blk_frozen zbq.out 2; have zdd := blk_frozen zbq.out 3) | ((with_reducible refine gate_builtin (b := .append) (xs := #[.tmp 57, .tmp 59]) rfl ?_); (try (refine gate_guard (by rfl) ?_; dsimp only)); at_builtin; refine Kd.R_append k34 (w0 := w) w.heap.size rfl (.tmp 57) (.tmp 59) 23 34 (.agg #[(.bool false), (.int .i64 0), (.int .i64 0), (.string ⟨#[]⟩)]) 40 rfl Try.underlying23 info34 rfl (by decide) (by omega) u4 x4_1 (⟨((Int.tmod t221 2) == 1), zbM, (wrap64 (Int.tdiv t221 2)), zbN⟩ : S34) [.bool ((Int.tmod t221 2) == 1), .int .i64 zbM, .int .i64 (wrap64 (Int.tdiv t221 2)), .string zbN] (fun k_ => k_ ≠ zbp) (fun _ => False) rfl rfl ?aP (fun _ hk => hk.elim) ?aF ?aO ?aB ?aS ?aL ?_; (case aP => exact k34_mkM _ _ _ (⟨((Int.tmod t221 2) == 1), zbM, (wrap64 (Int.tdiv t221 2)), zbN⟩ : S34)); (case aB => exact (M.up HB)); (case aF => exact (fun k_ hk => Kd.freshB (g := zbp) (o := .cells #[.bool ((Int.tmod t221 2) == 1), .int .i64 zbM, .int .i64 (wrap64 (Int.tdiv t221 2)), .string zbN] 34 (0, 0)) (M.bk zbq) k_ hk)); (case aO => exact (M.ro zaS)); (case aS => exact (below_size (M.up HB))); (case aL => have := LMc42.out; omega); intro v234 w50 ho hb hg hat; rw [← Ny233.out] at ho; have n0_ := Aside0.mk (blk_grown (g := zaF) (o := .cells #[.string zbJ, .int .i64 zbK, .int .i64 zbL] 62 (0, 0)) (M.bk zaG) hg (Kd.R_ne zaS.out zaG.out (by decide))); have n1_ := Aside0.mk (blk_grown (g := za5) (o := .cells #[.string t218, .int .i64 t219, .int .i64 t220] 62 (0, 0)) (M.bk za6) hg (Kd.R_ne zaS.out za6.out (by decide))); have n2_ := Aside0.mk (blk_grown (g := zbp) (o := .cells #[.bool ((Int.tmod t221 2) == 1), .int .i64 zbM, .int .i64 (wrap64 (Int.tdiv t221 2)), .string zbN] 34 (0, 0)) (M.bk zbq) hg (Kd.R_away zaS.out (fun _ hk => hk))); have n3_ := Aside0.mk (hb); have n4_ := Aside0.mk (ho); clear zaG za6 zbq HB zaS; have zaG := n0_; have za6 := n1_; have zbq := n2_; have HB := n3_; have HO235 := n4_; clear n0_ n1_ n2_ n3_ n4_; clear ho hb hg hat))
                      repeat (go_quiet (first | (go_at_call 15; (with_reducible refine (pleachref11_Is.calls ((Int.tmod t221 2) == 1) zbM (wrap64 (Int.tdiv t221 2)) zbN true _ A40.out).mono ?_); rintro e w48 ⟨rfl, hb⟩; have n0_ := M.roB zaS hb; have n1_ := M.bkB zaG hb; have n2_ := M.bkB za6 hb; have n3_ := M.bkB zbq hb; have n4_ := M.upS HB hb; clear zaS zaG za6 zbq HB; have zaS := n0_; have zaG := n1_; have za6 := n2_; have zbq := n3_; have HB := n4_; clear n0_ n1_ n2_ n3_ n4_; (try clear hb); (try clear hb2); (try clear hk); (try clear hi); have zc6 : w48.cell? ⟨zbp, 0, none⟩ = some (.bool ((Int.tmod t221 2) == 1)) := (blk_cell zbq.out 0).trans rfl; have zc7 : w48.cell? ⟨zbp, 1, none⟩ = some (.int .i64 zbM) := (blk_cell zbq.out 1).trans rfl; have zc8 : w48.cell? ⟨zbp, 2, none⟩ = some (.int .i64 (wrap64 (Int.tdiv t221 2))) := (blk_cell zbq.out 2).trans rfl; have zc9 : w48.cell? ⟨zbp, 3, none⟩ = some (.string zbN) := (blk_cell zbq.out 3).trans rfl; have zda := blk_frozen zbq.out 0; have zdb := blk_frozen zbq.out 1; have zdc := blk_frozen zbq.out 2; have zdd := blk_frozen zbq.out 3) | ((with_reducible refine gate_builtin (b := .append) (xs := #[.tmp 57, .tmp 59]) rfl ?_); (try (refine gate_guard (by rfl) ?_; dsimp only)); at_builtin; refine Kd.R_append k34 (w0 := w) w.heap.size rfl (.tmp 57) (.tmp 59) 23 34 (.agg #[(.bool false), (.int .i64 0), (.int .i64 0), (.string ⟨#[]⟩)]) 40 rfl Try.underlying23 info34 rfl (by decide) (by omega) u4 x4_1 (⟨((Int.tmod t221 2) == 1), zbM, (wrap64 (Int.tdiv t221 2)), zbN⟩ : S34) [.bool ((Int.tmod t221 2) == 1), .int .i64 zbM, .int .i64 (wrap64 (Int.tdiv t221 2)), .string zbN] (fun k_ => k_ ≠ zbp) (fun _ => False) rfl rfl ?aP (fun _ hk => hk.elim) ?aF ?aO ?aB ?aS ?aL ?_; (case aP => exact k34_mkM _ _ _ (⟨((Int.tmod t221 2) == 1), zbM, (wrap64 (Int.tdiv t221 2)), zbN⟩ : S34)); (case aB => exact (M.up HB)); (case aF => exact (fun k_ hk => Kd.freshB (g := zbp) (o := .cells #[.bool ((Int.tmod t221 2) == 1), .int .i64 zbM, .int .i64 (wrap64 (Int.tdiv t221 2)), .string zbN] 34 (0, 0)) (M.bk zbq) k_ hk)); (case aO => exact (M.ro zaS)); (case aS => exact (below_size (M.up HB))); (case aL => have := LMc42.out; omega); intro v234 w50 ho hb hg hat; rw [← Ny233.out] at ho; have n0_ := Aside0.mk (blk_grown (g := zaF) (o := .cells #[.string zbJ, .int .i64 zbK, .int .i64 zbL] 62 (0, 0)) (M.bk zaG) hg (Kd.R_ne zaS.out zaG.out (by decide))); have n1_ := Aside0.mk (blk_grown (g := za5) (o := .cells #[.string t218, .int .i64 t219, .int .i64 t220] 62 (0, 0)) (M.bk za6) hg (Kd.R_ne zaS.out za6.out (by decide))); have n2_ := Aside0.mk (blk_grown (g := zbp) (o := .cells #[.bool ((Int.tmod t221 2) == 1), .int .i64 zbM, .int .i64 (wrap64 (Int.tdiv t221 2)), .string zbN] 34 (0, 0)) (M.bk zbq) hg (Kd.R_away zaS.out (fun _ hk => hk))); have n3_ := Aside0.mk (hb); have n4_ := Aside0.mk (ho); clear zaG za6 zbq HB zaS; have zaG := n0_; have za6 := n1_; have zbq := n2_; have HB := n3_; have HO235 := n4_; clear n0_ n1_ n2_ n3_ n4_; clear ho hb hg hat)); try go_wp2_with (first | (go_at_call 15; (with_reducible refine (pleachref11_Is.calls ((Int.tmod t221 2) == 1) zbM (wrap64 (Int.tdiv t221 2)) zbN true _ A40.out).mono ?_); rintro e w48 ⟨rfl, hb⟩; have n0_ := M.roB zaS hb; have n1_ := M.bkB zaG hb; have n2_ := M.bkB za6 hb; have n3_ := M.bkB zbq hb; have n4_ := M.upS HB hb; clear zaS zaG za6 zbq HB; have zaS := n0_; have zaG := n1_; have za6 := n2_; have zbq := n3_; have HB := n4_; clear n0_ n1_ n2_ n3_ n4_; (try clear hb); (try clear hb2); (try clear hk); (try clear hi); have zc6 : w48.cell? ⟨zbp, 0, none⟩ = some (.bool ((Int.tmod t221 2) == 1)) := (blk_cell zbq.out 0).trans rfl; have zc7 : w48.cell? ⟨zbp, 1, none⟩ = some (.int .i64 zbM) := (blk_cell zbq.out 1).trans rfl; have zc8 : w48.cell? ⟨zbp, 2, none⟩ = some (.int .i64 (wrap64 (Int.tdiv t221 2))) := (blk_cell zbq.out 2).trans rfl; have zc9 : w48.cell? ⟨zbp, 3, none⟩ = some (.string zbN) := (blk_cell zbq.out 3).trans rfl; have zda := blk_frozen zbq.out 0; have zdb := blk_frozen zbq.out 1; have zdc := blk_frozen zbq.out 2; have zdd := blk_frozen zbq.out 3) | ((with_reducible refine gate_builtin (b := .append) (xs := #[.tmp 57, .tmp 59]) rfl ?_); (try (refine gate_guard (by rfl) ?_; dsimp only)); at_builtin; refine Kd.R_append k34 (w0 := w) w.heap.size rfl (.tmp 57) (.tmp 59) 23 34 (.agg #[(.bool false), (.int .i64 0), (.int .i64 0), (.string ⟨#[]⟩)]) 40 rfl Try.underlying23 info34 rfl (by decide) (by omega) u4 x4_1 (⟨((Int.tmod t221 2) == 1), zbM, (wrap64 (Int.tdiv t221 2)), zbN⟩ : S34) [.bool ((Int.tmod t221 2) == 1), .int .i64 zbM, .int .i64 (wrap64 (Int.tdiv t221 2)), .string zbN] (fun k_ => k_ ≠ zbp) (fun _ => False) rfl rfl ?aP (fun _ hk => hk.elim) ?aF ?aO ?aB ?aS ?aL ?_; (case aP => exact k34_mkM _ _ _ (⟨((Int.tmod t221 2) == 1), zbM, (wrap64 (Int.tdiv t221 2)), zbN⟩ : S34)); (case aB => exact (M.up HB)); (case aF => exact (fun k_ hk => Kd.freshB (g := zbp) (o := .cells #[.bool ((Int.tmod t221 2) == 1), .int .i64 zbM, .int .i64 (wrap64 (Int.tdiv t221 2)), .string zbN] 34 (0, 0)) (M.bk zbq) k_ hk)); (case aO => exact (M.ro zaS)); (case aS => exact (below_size (M.up HB))); (case aL => have := LMc42.out; omega); intro v234 w50 ho hb hg hat; rw [← Ny233.out] at ho; have n0_ := Aside0.mk (blk_grown (g := zaF) (o := .cells #[.string zbJ, .int .i64 zbK, .int .i64 zbL] 62 (0, 0)) (M.bk zaG) hg (Kd.R_ne zaS.out zaG.out (by decide))); have n1_ := Aside0.mk (blk_grown (g := za5) (o := .cells #[.string t218, .int .i64 t219, .int .i64 t220] 62 (0, 0)) (M.bk za6) hg (Kd.R_ne zaS.out za6.out (by decide))); have n2_ := Aside0.mk (blk_grown (g := zbp) (o := .cells #[.bool ((Int.tmod t221 2) == 1), .int .i64 zbM, .int .i64 (wrap64 (Int.tdiv t221 2)), .string zbN] 34 (0, 0)) (M.bk zbq) hg (Kd.R_away zaS.out (fun _ hk => hk))); have n3_ := Aside0.mk (hb); have n4_ := Aside0.mk (ho); clear zaG za6 zbq HB zaS; have zaG := n0_; have za6 := n1_; have zbq := n2_; have HB := n3_; have HO235 := n4_; clear n0_ n1_ n2_ n3_ n4_; clear ho hb hg hat)))
                      go_roundg kj9
                      case measure => have := HK1.out; have := HJ3.out; have := HJ9.out; omega
                      case rel => exact ⟨(y233), (zbJ), (zbK), (zbL), H', ⟨by have := HK1.out; have := HJ3.out; have := HJ9.out; omega⟩, ⟨by (with_reducible repeat (first | apply Kd.R_alloc | apply Kd.R_drewN | apply Kd.R_drew)); exact Kd.R_mono HO235.out (fun _ hk => trivial)⟩, ⟨by (with_reducible repeat (first | refine blk_drewN ?_ _ | refine blk_drew ?_ | refine blk_alloc ?_ _)); exact zaG.out⟩, ⟨M.up HB⟩⟩
                    · rw [if_neg c42] at H
                      exact absurd H (by simp)
                  · replace c41 := Bool.eq_false_iff.mpr c41
                    subst c41
                    have H1 : (some (([] : List (S34)), false)) = some (r1, r2) := by rw [if_neg (show ¬ (false = true) by decide)] at H; exact H
                    clear H
                    have H := H1
                    clear H1
                    simp only [Option.some.injEq, Prod.mk.injEq] at H
                    obtain ⟨rfl, rfl⟩ := H
                    have zde := za9.out
                    have zdf := zba.out
                    have zdg := zbt.out
                    have zdh := zbu.out
                    obtain ⟨zdi, zdj, zdk⟩ := M.bc3 (w := wc) (a := .string zbJ) (b := .int .i64 zbK) (c := .int .i64 zbL) zaG.out
                    obtain ⟨zdl, zdm, zdn⟩ := M.bf3 zaG
                    have zdo := zbw.out
                    have zdp := zbv.out
                    have zdq : wc.cell? ⟨zbp, 0, none⟩ = some (.bool ((Int.tmod t221 2) == 1)) := (blk_cell zbq.out 0).trans rfl
                    have zdr : wc.cell? ⟨zbp, 1, none⟩ = some (.int .i64 zbM) := (blk_cell zbq.out 1).trans rfl
                    have zds : wc.cell? ⟨zbp, 2, none⟩ = some (.int .i64 (wrap64 (Int.tdiv t221 2))) := (blk_cell zbq.out 2).trans rfl
                    have zdt : wc.cell? ⟨zbp, 3, none⟩ = some (.string zbN) := (blk_cell zbq.out 3).trans rfl
                    have zdu := blk_frozen zbq.out 0
                    have zdv := blk_frozen zbq.out 1
                    have zdw := blk_frozen zbq.out 2
                    have zdx := blk_frozen zbq.out 3
                    go_wp2_with (first | (go_at_call 15; (with_reducible refine (pleachref11_Is.calls ((Int.tmod t221 2) == 1) zbM (wrap64 (Int.tdiv t221 2)) zbN false _ A40.out).mono ?_); rintro e w56 ⟨rfl, hb⟩; have n0_ := M.roB zaS hb; have n1_ := M.bkB zaG hb; have n2_ := M.bkB za6 hb; have n3_ := M.bkB zbq hb; have n4_ := M.upS HB hb; clear zaS zaG za6 zbq HB; have zaS := n0_; have zaG := n1_; have za6 := n2_; have zbq := n3_; have HB := n4_; clear n0_ n1_ n2_ n3_ n4_; (try clear hb); (try clear hb2); (try clear hk); (try clear hi)))
                    repeat (go_quiet (first | (go_at_call 15; (with_reducible refine (pleachref11_Is.calls ((Int.tmod t221 2) == 1) zbM (wrap64 (Int.tdiv t221 2)) zbN false _ A40.out).mono ?_); rintro e w56 ⟨rfl, hb⟩; have n0_ := M.roB zaS hb; have n1_ := M.bkB zaG hb; have n2_ := M.bkB za6 hb; have n3_ := M.bkB zbq hb; have n4_ := M.upS HB hb; clear zaS zaG za6 zbq HB; have zaS := n0_; have zaG := n1_; have za6 := n2_; have zbq := n3_; have HB := n4_; clear n0_ n1_ n2_ n3_ n4_; (try clear hb); (try clear hb2); (try clear hk); (try clear hi))); try go_wp2_with (first | (go_at_call 15; (with_reducible refine (pleachref11_Is.calls ((Int.tmod t221 2) == 1) zbM (wrap64 (Int.tdiv t221 2)) zbN false _ A40.out).mono ?_); rintro e w56 ⟨rfl, hb⟩; have n0_ := M.roB zaS hb; have n1_ := M.bkB zaG hb; have n2_ := M.bkB za6 hb; have n3_ := M.bkB zbq hb; have n4_ := M.upS HB hb; clear zaS zaG za6 zbq HB; have zaS := n0_; have zaG := n1_; have za6 := n2_; have zbq := n3_; have HB := n4_; clear n0_ n1_ n2_ n3_ n4_; (try clear hb); (try clear hb2); (try clear hk); (try clear hi))))
                    go_ret2
                    exact ⟨_, by first | rfl | (simp [errW_none, errW_some] <;> rfl) | (simp [*, errW_none, errW_some] <;> rfl), by first | exact Kd.R_nil _ _ _ _ _ | exact Kd.N_nil _ _ _ _ _ | exact Kd.V_nil _ _ _ _ _ | exact Kd.Q_nil _ _ _ _ _ | exact Kd.S_nil _ _ _ _ _, M.up HB⟩
                · rw [if_neg c39] at H
                  have c39b0 : (zbL == 0) = false := beq_eq_false_iff_ne.mpr c39
                  have c39b1 : (zbL != 0) = true := bne_iff_ne.mpr c39
                  simp only [Option.some.injEq, Prod.mk.injEq] at H
                  obtain ⟨rfl, rfl⟩ := H
                  have zdy := za9.out
                  have zdz := zba.out
                  have zdA := zbt.out
                  have zdB := zbu.out
                  obtain ⟨zdC, zdD, zdE⟩ := M.bc3 (w := wc) (a := .string zbJ) (b := .int .i64 zbK) (c := .int .i64 zbL) zaG.out
                  obtain ⟨zdF, zdG, zdH⟩ := M.bf3 zaG
                  go_wp2
                  repeat (go_quiet (fail); try go_wp2)
                  go_ret2
                  exact ⟨_, by first | rfl | (simp [errW_none, errW_some] <;> rfl) | (simp [*, errW_none, errW_some] <;> rfl), by first | exact Kd.R_nil _ _ _ _ _ | exact Kd.N_nil _ _ _ _ _ | exact Kd.V_nil _ _ _ _ _ | exact Kd.Q_nil _ _ _ _ _ | exact Kd.S_nil _ _ _ _ _, M.up HB⟩
          · replace c8 := Bool.eq_false_iff.mpr c8
            subst c8
            have H1 : (some (x4_1, (zaR == 0))) = some (r1, r2) := by rw [if_neg (show ¬ (false = true) by decide)] at H; exact H
            clear H
            have H := H1
            clear H1
            simp only [Option.some.injEq, Prod.mk.injEq] at H
            obtain ⟨rfl, rfl⟩ := H
            obtain ⟨zdI, zdJ, zdK⟩ := M.bc3 (w := wc) (a := .string zaP) (b := .int .i64 zaQ) (c := .int .i64 zaR) zaG.out
            obtain ⟨zdL, zdM, zdN⟩ := M.bf3 zaG
            go_wp2
            repeat (go_quiet (fail); try go_wp2)
            go_ret2
            exact ⟨_, by first | rfl | (simp [errW_none, errW_some] <;> rfl) | (simp [*, errW_none, errW_some] <;> rfl), by (with_reducible repeat (first | apply Kd.R_alloc | apply Kd.R_drewN | apply Kd.R_drew)); exact zaS.out, M.up HB⟩

-- this session's own plain form
def pleachref11_Take.un (p : M.Pc) : S34 := ⟨p.1, p.2.1, p.2.2.1, p.2.2.2⟩
def pleachref11_Take.res (out : List S34) : Option (List M.Pc) → List S34 × Bool
  | some l => (out ++ l.map pleachref11_Take.un, true)
  | none => ([], false)
def pleachref11_Take.f (s : ByteArray) : Option (List S34 × Bool) := if s.size ≤ 1000000000 then some (pleachref11_Take.res [] (M.dtake s (s.size + 1) 0)) else none
theorem pleachref11_Take.loop (s : ByteArray) (hz : s.size ≤ 1000000000) (d : Nat) : ∀ (p : Int) (out : List S34), M.sok s p → (s.size : Int) - p < d → out.length ≤ 1000000000 + p →
    ∃ k, pleachref11_Take_p.l0 k s out s p 0 = some (pleachref11_Take.res out (M.dtake s d p)) := by
  induction d with
  | zero => intro p out h h1; have := h.2.1; omega
  | succ d ih =>
    intro p out h h1 h2
    by_cases hp : p < (s.size : Int)
    · rw [M.dtake_go hp]
      have k1 := M.xnum_ok s 0 4294967295 h
      have r1 := M.xnum_range s (er := 0) h (most := 4294967295) (by decide) (by decide)
      have start : ∀ k, pleachref11_Take_p.l0 (k + 1 + 1) s out s p 0 = (pleachref04_Num.f s p 0 4294967295).bind fun bt218 => (if (Int.tmod bt218.2.2.2 2) = 1 then ((pleachref04_Num.f bt218.1 bt218.2.1 bt218.2.2.1 4294967295).bind fun bt224 => (pleachref11_Take_p.j2 k s out bt224.1 bt224.2.1 bt224.2.2.1 ((Int.tmod bt218.2.2.2 2) == 1) bt224.2.2.2 (wrap64 (Int.tdiv bt218.2.2.2 2)) (⟨#[]⟩ : ByteArray))) else ((pleachref04_Fix.f bt218.1 bt218.2.1 bt218.2.2.1 (wrap64 (Int.tdiv bt218.2.2.2 2))).bind fun bt228 => (pleachref11_Take_p.j2 k s out bt228.1 bt228.2.1 bt228.2.2.1 ((Int.tmod bt218.2.2.2 2) == 1) 0 (wrap64 (Int.tdiv bt218.2.2.2 2)) bt228.2.2.2))) := by
        intro k
        rw [pleachref11_Take_p.l0, if_pos rfl, pleachref11_Take_p.j1, if_pos (decide_eq_true hp)]
      have fin : ∀ (c : Bool) (a n : Int) (o : ByteArray) (q e : Int), (e = 0 ∧ M.pok c a n o = true → M.sok s q ∧ p < q) →
          ∃ k, pleachref11_Take_p.j2 k s out s q e c a n o = some (pleachref11_Take.res out ((if e = 0 ∧ M.pok c a n o = true then some (((c, a, n, o) : M.Pc), q) else none : Option (M.Pc × Int)).bind fun y => (M.dtake s d y.2).map (y.1 :: ·))) := by
        intro c a n o q e hq
        by_cases he : e = 0
        · subst he
          by_cases hk : M.pok c a n o = true
          · obtain ⟨k2, g2⟩ := hq ⟨rfl, hk⟩
            obtain ⟨k, hk2⟩ := ih q (out ++ [⟨c, a, n, o⟩]) k2 (by omega) (by rw [List.length_append, List.length_singleton]; omega)
            refine ⟨k + 1, ?_⟩
            have := k2.2.1
            rw [pleachref11_Take_p.j2, if_pos rfl, pleachref11_Is.f, Option.bind_some, if_pos hk, if_pos (by omega), hk2, if_pos ⟨rfl, hk⟩, Option.bind_some]
            simp only
            cases M.dtake s d q with
            | none => rfl
            | some l => simp only [pleachref11_Take.res, Option.map_some, List.append_assoc, List.singleton_append, List.map_cons, pleachref11_Take.un]
          · refine ⟨0 + 1, ?_⟩
            rw [pleachref11_Take_p.j2, if_pos rfl, pleachref11_Is.f, Option.bind_some, if_neg hk, if_neg (fun z => hk z.2)]; rfl
        · refine ⟨0 + 1, ?_⟩
          rw [pleachref11_Take_p.j2, if_neg he, if_neg (fun z => he z.1)]; rfl
      have hsp : ∀ (x : M.Pc) (q : Int), M.dstep s p = some (x, q) → M.pk x = true ∧ p < q ∧ M.sok s q ∧ M.span s p q (M.pput x) := fun x q hd => M.dstep_span h hd
      unfold M.dstep at hsp ⊢
      have gn : ∀ (c : ByteArray × Int × Int × Int → Option (List S34 × Bool)), (pleachref04_Num.f s p 0 4294967295).bind c = c (s, (M.xnum s p 0 4294967295).2.1, (M.xnum s p 0 4294967295).2.2, (M.xnum s p 0 4294967295).1) := by
        intro c; unfold pleachref04_Num.f; rw [if_pos ⟨h, by decide, by omega⟩, Option.bind_some]
      have gn2 : ∀ (c : ByteArray × Int × Int × Int → Option (List S34 × Bool)), (pleachref04_Num.f s (M.xnum s p 0 4294967295).2.1 (M.xnum s p 0 4294967295).2.2 4294967295).bind c = c (s, (M.xnum s (M.xnum s p 0 4294967295).2.1 (M.xnum s p 0 4294967295).2.2 4294967295).2.1, (M.xnum s (M.xnum s p 0 4294967295).2.1 (M.xnum s p 0 4294967295).2.2 4294967295).2.2, (M.xnum s (M.xnum s p 0 4294967295).2.1 (M.xnum s p 0 4294967295).2.2 4294967295).1) := by
        intro c; unfold pleachref04_Num.f; rw [if_pos ⟨k1, by decide, by omega⟩, Option.bind_some]
      have gf : ∀ (c : ByteArray × Int × Int × ByteArray → Option (List S34 × Bool)), (pleachref04_Fix.f s (M.xnum s p 0 4294967295).2.1 (M.xnum s p 0 4294967295).2.2 ((M.xnum s p 0 4294967295).1 / 2)).bind c = c (s, (M.xfix s (M.xnum s p 0 4294967295).2.1 (M.xnum s p 0 4294967295).2.2 ((M.xnum s p 0 4294967295).1 / 2)).2.1, (M.xfix s (M.xnum s p 0 4294967295).2.1 (M.xnum s p 0 4294967295).2.2 ((M.xnum s p 0 4294967295).1 / 2)).2.2, (M.xfix s (M.xnum s p 0 4294967295).2.1 (M.xnum s p 0 4294967295).2.2 ((M.xnum s p 0 4294967295).1 / 2)).1) := by
        intro c; unfold pleachref04_Fix.f pleachref04_fix.f; rw [if_pos ⟨k1, by omega, by omega⟩, Option.bind_some]
      have ht : Int.tmod (M.xnum s p 0 4294967295).1 2 = (M.xnum s p 0 4294967295).1 % 2 := Int.tmod_eq_emod_of_nonneg r1.1
      have hv : wrap64 (Int.tdiv (M.xnum s p 0 4294967295).1 2) = (M.xnum s p 0 4294967295).1 / 2 := by
        rw [Int.tdiv_eq_ediv_of_nonneg r1.1, M.wrap64_id (by omega) (by omega)]
      by_cases ho : (M.xnum s p 0 4294967295).1 % 2 = 1
      · rw [if_pos ho] at hsp ⊢
        obtain ⟨k, hk⟩ := fin true _ ((M.xnum s p 0 4294967295).1 / 2) ⟨#[]⟩ _ (M.xnum s (M.xnum s p 0 4294967295).2.1 (M.xnum s p 0 4294967295).2.2 4294967295).2.2 (fun z => by have := hsp _ _ (if_pos z); exact ⟨this.2.2.1, this.2.1⟩)
        refine ⟨k + 1 + 1, ?_⟩
        rw [start, gn]
        simp only
        rw [ht, if_pos ho, gn2, hv]
        simp only
        rw [ho]
        exact hk
      · rw [if_neg ho] at hsp ⊢
        obtain ⟨k, hk⟩ := fin false 0 ((M.xnum s p 0 4294967295).1 / 2) (M.xfix s (M.xnum s p 0 4294967295).2.1 (M.xnum s p 0 4294967295).2.2 ((M.xnum s p 0 4294967295).1 / 2)).1 _ (M.xfix s (M.xnum s p 0 4294967295).2.1 (M.xnum s p 0 4294967295).2.2 ((M.xnum s p 0 4294967295).1 / 2)).2.2 (fun z => by have := hsp _ _ (if_pos z); exact ⟨this.2.2.1, this.2.1⟩)
        refine ⟨k + 1 + 1, ?_⟩
        rw [start, gn]
        simp only
        rw [ht, if_neg ho, hv, gf]
        simp only
        rw [show ((M.xnum s p 0 4294967295).1 % 2 == 1) = false from by simpa using ho]
        exact hk
    · refine ⟨0 + 1 + 1, ?_⟩
      rw [M.dtake, if_neg hp, pleachref11_Take_p.l0, if_pos rfl, pleachref11_Take_p.j1, if_neg (by simpa using hp)]
      simp [pleachref11_Take.res]
theorem pleachref11_Take.ev (s : ByteArray) (r : List S34 × Bool) (h : pleachref11_Take.f s = some r) : ∃ k, pleachref11_Take_p.f k s = some r := by
  unfold pleachref11_Take.f at h
  split at h
  case isFalse => cases h
  case isTrue hh =>
    obtain ⟨k, hk⟩ := pleachref11_Take.loop s hh (s.size + 1) 0 [] ⟨by decide, by omega, by omega⟩ (by omega) (by simp)
    refine ⟨k, ?_⟩
    unfold pleachref11_Take_p.f
    rw [hk, ← h]
theorem pleachref11_Take.calls (a0 : ByteArray) (r1 : List (S34)) (r2 : Bool) (w : World) (h : pleachref11_Take.f a0 = some (r1, r2)) :
    Calls Try.prog 20 #[.string a0] w fun e w' => ∃ v0_ : Value, e = .returned (.tuple #[v0_, .bool r2]) ∧ Kd.R k34 34 w' w.heap.size (fun _ => True) v0_ r1 ∧ Below w.heap.size w w' := by
  obtain ⟨k, hk⟩ := pleachref11_Take.ev _ _ h
  exact pleachref11_Take_p.calls (k := k) (w := w) (h := hk)

end Go.Proofs.Ytadpicphohobbaa.EDeltaTakes
