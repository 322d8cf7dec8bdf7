-- Written by this session's own program (wip/tools/ext.py) for this claim; Lean checks it.
import Derived.Test.YtccppdpmfegndaaEChunkTellsx0
import Derived.Test.YtccppdpmfegndaaEChunkTellsx2
import Derived.Test.YtccppdpmfegndaaEChunkTellsx3
import Derived.Test.YtccppdpmfegndaaEChunkTellsx6
import Derived.Test.YtccppdpmfegndaaEChunkTellsx7
namespace Go.Proofs.Ytccppdpmfegndaa.EChunkTells
open Go.RowKit Go.Proofs.YtccppdpmfegndaaW.PrintWords Go.Proofs.YtccppdpmfegndaaW.PrintLast Go.Proofs.YtccppdpmfegndaaW.PrintMore
attribute [local go_sem] M.run_leq M.run_gtr M.run_geq max2_int min2_int max_two min_two max_three min_three max_four min_four   -- for this text's walks alone
set_option linter.unusedVariables false
set_option linter.unusedSimpArgs false

attribute [local go_sem high] eqA32
/-! ### pleachlaw19_ChunkTells: function 3 -/
def pleachlaw19_ChunkTells.l0 : Nat → ByteArray → ByteArray → Int → Int → ByteArray → List (S29) → Int → Int → Int → List (S29) → List Int → Option (Bool)
  | 0, _, _, _, _, _, _, _, _, _, _, _ => none
  | k + 1, x1, x2, x3, x9, x10, x20, x21, x22, zaa, zab, zac => if x22 < x21 then (if 0 ≤ x22 then (if x22 < (x20.length : Int) then (if x9 = x22 then (if (Op.bytesLess (((rd_T29 x20 x22).f0).toList) x1.toList) = true then (pleachlaw19_ChunkTells.l0 k x1 x2 x3 (wrap64 (x9 + 1)) ((rd_T29 x20 x22).f0) x20 x21 (wrap64 (x22 + 1)) zaa zab zac) else (pleachlaw19_ChunkTells.l0 k x1 x2 x3 x9 ((rd_T29 x20 x22).f0) x20 x21 (wrap64 (x22 + 1)) zaa zab zac)) else (pleachlaw19_ChunkTells.l0 k x1 x2 x3 x9 ((rd_T29 x20 x22).f0) x20 x21 (wrap64 (x22 + 1)) zaa zab zac)) else (none)) else (none)) else ((pleachref19_Total.f k zaa zab zac).bind fun t166 => ((pleachref19_Total.f k zaa zab zac).bind fun t171 => ((chunk_Total.f k zaa zab zac).bind fun t176 => ((pleachref19_Total.f k zaa zab zac).bind fun t177 => (if t176 = t177 then ((chunk_Last.f zaa zab zac).bind fun t178 => (if t178.toList = x10.toList then ((chunk_Find.f k zaa zab zac x1).bind fun t179 => (if t179 = x9 then ((chunk_Twig.f k zaa zab zac x2).bind fun bt180 => (if (bt180.1.toList == x10.toList && (bt180.2.1.toList == x2.toList && (bt180.2.2 == t166))) = true then ((chunk_Over.f k x3 (([(⟨x10, x2, t166⟩ : S32), (⟨x1, (⟨#[120]⟩ : ByteArray), 3⟩ : S32)] : List (S32)))).bind fun bt186 => ((pleachref19_Same.f k bt186.1 bt186.2.1 bt186.2.2 x3 (([(⟨x10, x2⟩ : S29), (⟨x1, (⟨#[120]⟩ : ByteArray)⟩ : S29)] : List (S29))) (([t171, 3] : List Int))).bind fun t193 => (if t193 = true then ((pleachlaw19_awake.f).bind fun t194 => (some t194)) else (some false)))) else (some false))) else (some false))) else (some false))) else (some false))))))
def pleachlaw19_ChunkTells.f (k : Nat) (a0_0 : Int) (l0_1 : List (S29)) (l0_2 : List Int) (a1 : ByteArray) (a2 : ByteArray) (a3 : Int) : Option (Bool) := (pleachlaw19_few.f k a0_0 l0_1 l0_2).bind fun t162 => (if t162 = true then (pleachlaw19_ChunkTells.l0 k a1 a2 a3 0 (⟨#[]⟩ : ByteArray) l0_1 (l0_1.length : Int) 0 a0_0 l0_1 l0_2) else ((pleachlaw19_awake.f).bind fun t163 => (some t163)))
theorem pleachlaw19_ChunkTells.mono_l : ∀ k, (∀ y0 y1 y2 y3 y4 y5 y6 y7 y8 y9 y10, LeO (pleachlaw19_ChunkTells.l0 k y0 y1 y2 y3 y4 y5 y6 y7 y8 y9 y10) (pleachlaw19_ChunkTells.l0 (k + 1) y0 y1 y2 y3 y4 y5 y6 y7 y8 y9 y10))
  | 0 => fun _ _ _ _ _ _ _ _ _ _ _ r h => by simp [pleachlaw19_ChunkTells.l0] at h
  | k + 1 => by
    have ih0 := pleachlaw19_ChunkTells.mono_l k
    · intro y0 y1 y2 y3 y4 y5 y6 y7 y8 y9 y10
      unfold pleachlaw19_ChunkTells.l0
      repeat' first
      | (with_reducible exact ih0 _ _ _ _ _ _ _ _ _ _ _)
      | (with_reducible exact chunk_Find.mono _ _ _ _ _)
      | (with_reducible exact chunk_Over.mono _ _ _)
      | (with_reducible exact chunk_Total.mono _ _ _ _)
      | (with_reducible exact chunk_Twig.mono _ _ _ _ _)
      | (with_reducible exact pleachlaw19_few.mono _ _ _ _)
      | (with_reducible exact pleachref19_Same.mono _ _ _ _ _ _ _)
      | (with_reducible exact pleachref19_Total.mono _ _ _ _)
      | (with_reducible exact LeO.refl _)
      | (with_reducible exact LeO.none _)
      | (with_reducible refine LeO.ite ?_ ?_)
      | (with_reducible refine LeO.bind ?_ (fun _ => ?_))
      | exact ih0 _ _ _ _ _ _ _ _ _ _ _
      | exact chunk_Find.mono _ _ _ _ _
      | exact chunk_Over.mono _ _ _
      | exact chunk_Total.mono _ _ _ _
      | exact chunk_Twig.mono _ _ _ _ _
      | exact pleachlaw19_few.mono _ _ _ _
      | exact pleachref19_Same.mono _ _ _ _ _ _ _
      | exact pleachref19_Total.mono _ _ _ _
      | exact LeO.none _
      | refine LeO.ite ?_ ?_
      | refine LeO.bind ?_ (fun _ => ?_)
theorem pleachlaw19_ChunkTells.mono : ∀ a0 a1 a2 a3 a4 a5 k, LeO (pleachlaw19_ChunkTells.f k a0 a1 a2 a3 a4 a5) (pleachlaw19_ChunkTells.f (k + 1) a0 a1 a2 a3 a4 a5) := by
  intro a0 a1 a2 a3 a4 a5 k
  have ih0 := pleachlaw19_ChunkTells.mono_l k
  unfold pleachlaw19_ChunkTells.f
  repeat' first
      | (with_reducible exact ih0 _ _ _ _ _ _ _ _ _ _ _)
      | (with_reducible exact chunk_Find.mono _ _ _ _ _)
      | (with_reducible exact chunk_Over.mono _ _ _)
      | (with_reducible exact chunk_Total.mono _ _ _ _)
      | (with_reducible exact chunk_Twig.mono _ _ _ _ _)
      | (with_reducible exact pleachlaw19_few.mono _ _ _ _)
      | (with_reducible exact pleachref19_Same.mono _ _ _ _ _ _ _)
      | (with_reducible exact pleachref19_Total.mono _ _ _ _)
      | (with_reducible exact LeO.refl _)
      | (with_reducible exact LeO.none _)
      | (with_reducible refine LeO.ite ?_ ?_)
      | (with_reducible refine LeO.bind ?_ (fun _ => ?_))
      | exact ih0 _ _ _ _ _ _ _ _ _ _ _
      | exact chunk_Find.mono _ _ _ _ _
      | exact chunk_Over.mono _ _ _
      | exact chunk_Total.mono _ _ _ _
      | exact chunk_Twig.mono _ _ _ _ _
      | exact pleachlaw19_few.mono _ _ _ _
      | exact pleachref19_Same.mono _ _ _ _ _ _ _
      | exact pleachref19_Total.mono _ _ _ _
      | exact LeO.none _
      | refine LeO.ite ?_ ?_
      | refine LeO.bind ?_ (fun _ => ?_)
def pleachlaw19_ChunkTells.T13 : Bool × List (List Nat × List Nat) := (true, [([], []), ([0], [0]), ([], []), ([2, 1], [2]), ([1, 3], [1, 3]), ([4, 3], [4]), ([5], [5]), ([6, 5, 5], [5, 6]), ([5], [5]), ([7, 8, 5], [5, 7, 8]), ([5, 9], [5, 9]), ([10, 7], [10]), ([11], [11]), ([11], [11]), ([12, 13, 11, 11], [11, 12, 13]), ([11], [11]), ([14, 15, 11], [11, 14, 15]), ([11, 16], [11, 16]), ([17, 14], [17]), ([18], [18]), ([18], [18]), ([19, 20, 18, 18], [18, 19, 20]), ([18], [18]), ([21, 22, 18], [18, 21, 22]), ([18, 23], [18, 23]), ([24, 21], [24]), ([25], [25]), ([25], [25]), ([25], [25]), ([28, 25], [25, 28]), ([27, 29, 25], [25, 27, 29]), ([26, 30, 25, 25], [25, 26, 30]), ([25], [25]), ([31, 32, 31, 25], [25, 31, 32]), ([25, 33], [25, 33]), ([34, 33], [34]), ([35, 35], [35]), ([35, 36], [35, 36]), ([37, 36, 0, 1, 2, 3, 4, 5, 6, 7, 8, 9, 10, 11, 12, 13, 14, 15, 16, 17, 18, 19, 20, 21, 22, 23, 24, 25, 26, 27, 28, 29, 30, 31, 32, 33, 34, 35, 36, 37], [37])])
def pleachlaw19_ChunkTells.B13 : List Nat := [0, 1, 0, 7, 15, 31, 63, 127, 63, 511, 1023, 2047, 4095, 4095, 16383, 4095, 65535, 131071, 262143, 524287, 524287, 2097151, 524287, 8388607, 16777215, 33554431, 67108863, 67108863, 67108863, 335544319, 1006632959, 2147483647, 67108863, 8589934591, 17179869183, 34359738367, 68719476735, 137438953471, 274877906943]
theorem pleachlaw19_ChunkTells.tab13 : rtab .any (opsOf Try.f3 13) = pleachlaw19_ChunkTells.T13 := by kernel_rfl
theorem pleachlaw19_ChunkTells.bits13 : waitsOk pleachlaw19_ChunkTells.T13.2 pleachlaw19_ChunkTells.B13 = true := by kernel_rfl
set_option maxHeartbeats 8000000 in
set_option maxRecDepth 100000 in
theorem pleachlaw19_ChunkTells.calls (k : Nat) (a0_0 : Int) (A0_1 : Option Addr) (c0_1 : Nat) (l0_1 : List (S29)) (A0_2 : Option Addr) (c0_2 : Nat) (l0_2 : List Int) (a1 : ByteArray) (a2 : ByteArray) (a3 : Int) (r : Bool) (w : World) (hr0_1 : Kd.C k29 w A0_1 l0_1.length l0_1) (hc0_1 : l0_1.length ≤ c0_1) (hr0_2 : Kd.C (Kd.int .i64) w A0_2 l0_2.length l0_2) (hc0_2 : l0_2.length ≤ c0_2) (h : pleachlaw19_ChunkTells.f k a0_0 l0_1 l0_2 a1 a2 a3 = some r) :
    Calls Try.prog 3 #[.agg #[.int .i64 a0_0, .slice A0_1 l0_1.length c0_1, .slice A0_2 l0_2.length c0_2], .string a1, .string a2, .int .i64 a3] w fun e w' => e = .returned (.bool r) ∧ Below w.heap.size w w' := by
  have hu25 := Try.underlying25
  have hu29 := Try.underlying29
  have hu32 := Try.underlying32
  have HR0_1 := Aside0.mk hr0_1
  have HC0_1 := Aside0.mk hc0_1
  clear hr0_1 hc0_1
  have HR0_2 := Aside0.mk hr0_2
  have HC0_2 := Aside0.mk hc0_2
  clear hr0_2 hc0_2
  have HB := Aside0.mk (Below.refl w.heap.size w)
  have H : ((pleachlaw19_few.f k a0_0 l0_1 l0_2).bind fun t162 => (if t162 = true then (pleachlaw19_ChunkTells.l0 k a1 a2 a3 0 (⟨#[]⟩ : ByteArray) l0_1 (l0_1.length : Int) 0 a0_0 l0_1 l0_2) else ((pleachlaw19_awake.f).bind fun t163 => (some t163)))) = some r := h
  clear h
  replace H := Option.bind_eq_some_iff.mp H
  obtain ⟨t162, A50, H⟩ := H
  replace H : (if t162 = true then (pleachlaw19_ChunkTells.l0 k a1 a2 a3 0 (⟨#[]⟩ : ByteArray) l0_1 (l0_1.length : Int) 0 a0_0 l0_1 l0_2) else ((pleachlaw19_awake.f).bind fun t163 => (some t163))) = some r := H
  have A5 := Aside0.mk A50
  clear A50
  by_cases c6 : t162 = true
  · subst c6
    have H1 : (pleachlaw19_ChunkTells.l0 k a1 a2 a3 0 (⟨#[]⟩ : ByteArray) l0_1 (l0_1.length : Int) 0 a0_0 l0_1 l0_2) = some r := by rw [if_pos rfl] at H; exact H
    clear H
    have H := H1
    clear H1
    have H' := Aside0.mk H
    clear H
    go_enter Try.func3, Try.ntmps3
    go_wp2_with (first | ((with_reducible refine gate_dst (N := 4) rfl ?_); (try (refine gate_guard (by rfl) ?_; dsimp only)); refine box_event ?hg (N := 4) ?hd (cs := #[.int .i64 a0_0, .slice A0_1 l0_1.length c0_1, .slice A0_2 l0_2.length c0_2]) (t := 25) ?hr ?_; (case hd => rfl); (case hg => rfl); (case hr => first | (go_simp; done) | (go_simp; rfl)); intro zad hg w7 hbox hb; have n0_ := M.upS HB hb; have n1_ := Aside0.mk (hbox); have n2_ := M.upG HB hg; have n3_ := M.upG HB hg; clear HB; have HB := n0_; have zae := n1_; have zaf := n2_; have zag := n3_; clear n0_ n1_ n2_ n3_; clear hb hbox hg; obtain ⟨zah, zai, zaj⟩ := M.bc3 (w := w7) (a := .int .i64 a0_0) (b := .slice A0_1 l0_1.length c0_1) (c := .slice A0_2 l0_2.length c0_2) zae.out; obtain ⟨zak, zal, zam⟩ := M.bf3 zae) | ((with_reducible refine gate_callee (f := 6) rfl ?_); refine M.goes (some 16) Try.func6 #[.agg #[.int .i64 a0_0, .slice A0_1 l0_1.length c0_1, .slice A0_2 l0_2.length c0_2]] rfl ?_; (with_reducible refine (pleachlaw19_few.calls k a0_0 _ _ l0_1 _ _ l0_2 true _ ?side1 ?side2 ?side3 ?side4 A5.out).mono ?_); (case side1 => exact M.cB HR0_1 HB); (case side2 => exact HC0_1.out); (case side3 => exact M.cB HR0_2 HB); (case side4 => exact HC0_2.out); rintro e w9 ⟨rfl, hb⟩; refine ⟨_, rfl, ?_⟩; have n0_ := M.bkB zae hb; have n1_ := M.upS HB hb; clear zae HB; have zae := n0_; have HB := n1_; clear n0_ n1_; (try clear hb); obtain ⟨zan, zao, zap⟩ := M.bc3 (w := w9) (a := .int .i64 a0_0) (b := .slice A0_1 l0_1.length c0_1) (c := .slice A0_2 l0_2.length c0_2) zae.out; obtain ⟨zaq, zar, zas⟩ := M.bf3 zae))
    go_loopg [9, 10, 22] k (fun kq v9 v10 v22 w' => ∃ (x9_1 : Int) (x10_1 : ByteArray) (x22_1 : Int), v9 = .int .i64 x9_1 ∧ v10 = .string x10_1 ∧ v22 = .int .i64 x22_1 ∧ Aside0 (pleachlaw19_ChunkTells.l0 kq a1 a2 a3 x9_1 x10_1 l0_1 (l0_1.length : Int) x22_1 a0_0 l0_1 l0_2 = some r) ∧ Aside0 (kq ≤ k) ∧ Aside0 (w'.heap[zad]? = some (.cells #[.int .i64 a0_0, (.slice A0_1 l0_1.length c0_1), (.slice A0_2 l0_2.length c0_2)] 25 (0, 0))) ∧ Aside0 (Below w.heap.size w w'))
    case atStart => exact ⟨(0), ((⟨#[]⟩ : ByteArray)), (0), (by first | rfl | (simp; done) | (simp [*]; done) | (simp [M.isEmpty_bne]; done)), (by first | rfl | (simp; done) | (simp [*]; done) | (simp [M.isEmpty_bne]; done)), (by first | rfl | (simp; done) | (simp [*]; done) | (simp [M.isEmpty_bne]; done)), H', ⟨Nat.le_refl _⟩, ⟨by (with_reducible repeat (first | refine blk_drewN ?_ _ | refine blk_drew ?_ | refine blk_alloc ?_ _)); exact zae.out⟩, ⟨M.up HB⟩⟩
    case round =>
      clear H'
      try clear p2
      try clear c3
      try clear c6
      try clear zan
      try clear zao
      try clear zap
      try clear zah
      try clear zai
      try clear zaj
      try clear zaq
      try clear zar
      try clear zas
      try clear zak
      try clear zal
      try clear zam
      obtain ⟨x9_1, x10_1, x22_1, rfl, rfl, rfl, HA, HK1, zae, HB⟩ := hrel
      cases gk with
      | zero => exact absurd HA.out (by simp [pleachlaw19_ChunkTells.l0])
      | succ k1 =>
        have H := HA.out
        clear HA
        simp only [pleachlaw19_ChunkTells.l0] at H
        by_cases c11 : x22_1 < (l0_1.length : Int)
        · rw [if_pos c11] at H
          have c11b0 : decide (x22_1 < (l0_1.length : Int)) = true := decide_eq_true c11
          clear c11
          by_cases c12 : 0 ≤ x22_1
          · rw [if_pos c12] at H
            have c12b0 : decide (0 ≤ x22_1) = true := decide_eq_true c12
            clear c12
            by_cases c13 : x22_1 < (l0_1.length : Int)
            · rw [if_pos c13] at H
              have c13b0 : decide (x22_1 < (l0_1.length : Int)) = true := decide_eq_true c13
              clear c13
              by_cases c14 : x9_1 = x22_1
              · rw [if_pos c14] at H
                have c14b0 : (x9_1 == x22_1) = true := beq_iff_eq.mpr c14
                have c14b1 : (x9_1 != x22_1) = false := bne_eq_false_iff_eq.mpr c14
                clear c14
                by_cases c15 : (Op.bytesLess (((rd_T29 l0_1 x22_1).f0).toList) a1.toList) = true
                · rw [if_pos c15] at H
                  have c15b0 : (Op.bytesLess (((rd_T29 l0_1 x22_1).f0).toList) a1.toList) = true := c15
                  clear c15
                  have H' := Aside0.mk H
                  clear H
                  have p164 : 0 ≤ (x22_1 : Int) := of_decide_eq_true (by first | (with_reducible assumption) | assumption)
                  have q164 : x22_1 < (l0_1.length : Int) := of_decide_eq_true (by first | (with_reducible assumption) | assumption)
                  obtain ⟨ad164, e164, hx164_0, hx164_1⟩ := at_T29 HR0_1.out x22_1 p164 q164
                  cases e164
                  replace hx164_0 := (HB.out.cell (World.block_lt_of_cell? w _ hx164_0)).trans hx164_0
                  replace hx164_1 := (HB.out.cell (World.block_lt_of_cell? w _ hx164_1)).trans hx164_1
                  replace p164 := eq_true p164
                  replace q164 := eq_true q164
                  go_wp2_with (first | ((with_reducible refine gate_dst (N := 12) rfl ?_); (try (refine gate_guard (by rfl) ?_; dsimp only)); refine box_event ?hg (N := 12) ?hd (cs := #[.string (⟨#[]⟩ : ByteArray), .string (⟨#[]⟩ : ByteArray)]) (t := 29) ?hr ?_; (case hd => rfl); (case hg => rfl); (case hr => first | (go_simp; done) | (go_simp; rfl)); intro zat hg w16 hbox hb; have n0_ := M.bkB zae hb; have n1_ := M.upS HB hb; have n2_ := Aside0.mk (hbox); have n3_ := M.upG HB hg; have n4_ := M.upG HB hg; have n5_ := M.bkL zae hg; have n6_ := M.bkG zae hg; clear zae HB; have zae := n0_; have HB := n1_; have zau := n2_; have zav := n3_; have zaw := n4_; have zax := n5_; have zay := n6_; clear n0_ n1_ n2_ n3_ n4_ n5_ n6_; clear hb hbox hg; have zaz := zay.out; have zaA := zax.out; obtain ⟨zaB, zaC⟩ := M.bc2 (w := w16) (a := .string (⟨#[]⟩ : ByteArray)) (b := .string (⟨#[]⟩ : ByteArray)) zau.out; obtain ⟨zaD, zaE⟩ := M.bf2 zau))
                  go_roundg k1
                  case measure => have := HK1.out; omega
                  case rel => exact ⟨(wrap64 (x9_1 + 1)), ((rd_T29 l0_1 x22_1).f0), (wrap64 (x22_1 + 1)), (by first | rfl | (simp; done) | (simp [*]; done) | (simp [M.isEmpty_bne]; done)), (by first | rfl | (simp; done) | (simp [*]; done) | (simp [M.isEmpty_bne]; done)), (by first | rfl | (simp; done) | (simp [*]; done) | (simp [M.isEmpty_bne]; done)), H', ⟨by have := HK1.out; omega⟩, ⟨by (with_reducible repeat (first | refine blk_drewN ?_ _ | refine blk_drew ?_ | refine blk_alloc ?_ _)); refine blk_far ?_ zax.out _; (with_reducible repeat (first | refine blk_drewN ?_ _ | refine blk_drew ?_ | refine blk_alloc ?_ _)); refine blk_far ?_ zax.out _; (with_reducible repeat (first | refine blk_drewN ?_ _ | refine blk_drew ?_ | refine blk_alloc ?_ _)); exact zae.out⟩, ⟨M.up HB⟩⟩
                · rw [if_neg c15] at H
                  have c15b0 : (Op.bytesLess (((rd_T29 l0_1 x22_1).f0).toList) a1.toList) = false := by simpa using c15
                  clear c15
                  have H' := Aside0.mk H
                  clear H
                  have p164 : 0 ≤ (x22_1 : Int) := of_decide_eq_true (by first | (with_reducible assumption) | assumption)
                  have q164 : x22_1 < (l0_1.length : Int) := of_decide_eq_true (by first | (with_reducible assumption) | assumption)
                  obtain ⟨ad164, e164, hx164_0, hx164_1⟩ := at_T29 HR0_1.out x22_1 p164 q164
                  cases e164
                  replace hx164_0 := (HB.out.cell (World.block_lt_of_cell? w _ hx164_0)).trans hx164_0
                  replace hx164_1 := (HB.out.cell (World.block_lt_of_cell? w _ hx164_1)).trans hx164_1
                  replace p164 := eq_true p164
                  replace q164 := eq_true q164
                  go_wp2_with (first | ((with_reducible refine gate_dst (N := 12) rfl ?_); (try (refine gate_guard (by rfl) ?_; dsimp only)); refine box_event ?hg (N := 12) ?hd (cs := #[.string (⟨#[]⟩ : ByteArray), .string (⟨#[]⟩ : ByteArray)]) (t := 29) ?hr ?_; (case hd => rfl); (case hg => rfl); (case hr => first | (go_simp; done) | (go_simp; rfl)); intro zat hg w19 hbox hb; have n0_ := M.bkB zae hb; have n1_ := M.upS HB hb; have n2_ := Aside0.mk (hbox); have n3_ := M.upG HB hg; have n4_ := M.upG HB hg; have n5_ := M.bkL zae hg; have n6_ := M.bkG zae hg; clear zae HB; have zae := n0_; have HB := n1_; have zau := n2_; have zav := n3_; have zaw := n4_; have zax := n5_; have zay := n6_; clear n0_ n1_ n2_ n3_ n4_ n5_ n6_; clear hb hbox hg; have zaF := zay.out; have zaG := zax.out; obtain ⟨zaH, zaI⟩ := M.bc2 (w := w19) (a := .string (⟨#[]⟩ : ByteArray)) (b := .string (⟨#[]⟩ : ByteArray)) zau.out; obtain ⟨zaJ, zaK⟩ := M.bf2 zau))
                  go_roundg k1
                  case measure => have := HK1.out; omega
                  case rel => exact ⟨(x9_1), ((rd_T29 l0_1 x22_1).f0), (wrap64 (x22_1 + 1)), (by first | rfl | (simp; done) | (simp [*]; done) | (simp [M.isEmpty_bne]; done)), (by first | rfl | (simp; done) | (simp [*]; done) | (simp [M.isEmpty_bne]; done)), (by first | rfl | (simp; done) | (simp [*]; done) | (simp [M.isEmpty_bne]; done)), H', ⟨by have := HK1.out; omega⟩, ⟨by (with_reducible repeat (first | refine blk_drewN ?_ _ | refine blk_drew ?_ | refine blk_alloc ?_ _)); refine blk_far ?_ zax.out _; (with_reducible repeat (first | refine blk_drewN ?_ _ | refine blk_drew ?_ | refine blk_alloc ?_ _)); refine blk_far ?_ zax.out _; (with_reducible repeat (first | refine blk_drewN ?_ _ | refine blk_drew ?_ | refine blk_alloc ?_ _)); exact zae.out⟩, ⟨M.up HB⟩⟩
              · rw [if_neg c14] at H
                have c14b0 : (x9_1 == x22_1) = false := beq_eq_false_iff_ne.mpr c14
                have c14b1 : (x9_1 != x22_1) = true := bne_iff_ne.mpr c14
                have H' := Aside0.mk H
                clear H
                have p164 : 0 ≤ (x22_1 : Int) := of_decide_eq_true (by first | (with_reducible assumption) | assumption)
                have q164 : x22_1 < (l0_1.length : Int) := of_decide_eq_true (by first | (with_reducible assumption) | assumption)
                obtain ⟨ad164, e164, hx164_0, hx164_1⟩ := at_T29 HR0_1.out x22_1 p164 q164
                cases e164
                replace hx164_0 := (HB.out.cell (World.block_lt_of_cell? w _ hx164_0)).trans hx164_0
                replace hx164_1 := (HB.out.cell (World.block_lt_of_cell? w _ hx164_1)).trans hx164_1
                replace p164 := eq_true p164
                replace q164 := eq_true q164
                go_wp2_with (first | ((with_reducible refine gate_dst (N := 12) rfl ?_); (try (refine gate_guard (by rfl) ?_; dsimp only)); refine box_event ?hg (N := 12) ?hd (cs := #[.string (⟨#[]⟩ : ByteArray), .string (⟨#[]⟩ : ByteArray)]) (t := 29) ?hr ?_; (case hd => rfl); (case hg => rfl); (case hr => first | (go_simp; done) | (go_simp; rfl)); intro zat hg w22 hbox hb; have n0_ := M.bkB zae hb; have n1_ := M.upS HB hb; have n2_ := Aside0.mk (hbox); have n3_ := M.upG HB hg; have n4_ := M.upG HB hg; have n5_ := M.bkL zae hg; have n6_ := M.bkG zae hg; clear zae HB; have zae := n0_; have HB := n1_; have zau := n2_; have zav := n3_; have zaw := n4_; have zax := n5_; have zay := n6_; clear n0_ n1_ n2_ n3_ n4_ n5_ n6_; clear hb hbox hg; have zaL := zay.out; have zaM := zax.out; obtain ⟨zaN, zaO⟩ := M.bc2 (w := w22) (a := .string (⟨#[]⟩ : ByteArray)) (b := .string (⟨#[]⟩ : ByteArray)) zau.out; obtain ⟨zaP, zaQ⟩ := M.bf2 zau))
                go_roundg k1
                case measure => have := HK1.out; omega
                case rel => exact ⟨(x9_1), ((rd_T29 l0_1 x22_1).f0), (wrap64 (x22_1 + 1)), (by first | rfl | (simp; done) | (simp [*]; done) | (simp [M.isEmpty_bne]; done)), (by first | rfl | (simp; done) | (simp [*]; done) | (simp [M.isEmpty_bne]; done)), (by first | rfl | (simp; done) | (simp [*]; done) | (simp [M.isEmpty_bne]; done)), H', ⟨by have := HK1.out; omega⟩, ⟨by (with_reducible repeat (first | refine blk_drewN ?_ _ | refine blk_drew ?_ | refine blk_alloc ?_ _)); refine blk_far ?_ zax.out _; (with_reducible repeat (first | refine blk_drewN ?_ _ | refine blk_drew ?_ | refine blk_alloc ?_ _)); refine blk_far ?_ zax.out _; (with_reducible repeat (first | refine blk_drewN ?_ _ | refine blk_drew ?_ | refine blk_alloc ?_ _)); exact zae.out⟩, ⟨M.up HB⟩⟩
            · rw [if_neg c13] at H
              exact absurd H (by simp)
          · rw [if_neg c12] at H
            exact absurd H (by simp)
        · rw [if_neg c11] at H
          have c11b0 : decide (x22_1 < (l0_1.length : Int)) = false := decide_eq_false c11
          clear c11
          replace H := Option.bind_eq_some_iff.mp H
          obtain ⟨t166, A250, H⟩ := H
          replace H : ((pleachref19_Total.f k1 a0_0 l0_1 l0_2).bind fun t171 => ((chunk_Total.f k1 a0_0 l0_1 l0_2).bind fun t176 => ((pleachref19_Total.f k1 a0_0 l0_1 l0_2).bind fun t177 => (if t176 = t177 then ((chunk_Last.f a0_0 l0_1 l0_2).bind fun t178 => (if t178.toList = x10_1.toList then ((chunk_Find.f k1 a0_0 l0_1 l0_2 a1).bind fun t179 => (if t179 = x9_1 then ((chunk_Twig.f k1 a0_0 l0_1 l0_2 a2).bind fun bt180 => (if (bt180.1.toList == x10_1.toList && (bt180.2.1.toList == a2.toList && (bt180.2.2 == t166))) = true then ((chunk_Over.f k1 a3 (([(⟨x10_1, a2, t166⟩ : S32), (⟨a1, (⟨#[120]⟩ : ByteArray), 3⟩ : S32)] : List (S32)))).bind fun bt186 => ((pleachref19_Same.f k1 bt186.1 bt186.2.1 bt186.2.2 a3 (([(⟨x10_1, a2⟩ : S29), (⟨a1, (⟨#[120]⟩ : ByteArray)⟩ : S29)] : List (S29))) (([t171, 3] : List Int))).bind fun t193 => (if t193 = true then ((pleachlaw19_awake.f).bind fun t194 => (some t194)) else (some false)))) else (some false))) else (some false))) else (some false))) else (some false))))) = some r := H
          have A25 := Aside0.mk A250
          clear A250
          obtain ⟨y168, hy168⟩ : ∃ y_ : List (S29), y_ = (([(⟨x10_1, a2⟩ : S29), (⟨a1, (⟨#[120]⟩ : ByteArray)⟩ : S29)] : List (S29))) := ⟨_, rfl⟩
          replace H : ((pleachref19_Total.f k1 a0_0 l0_1 l0_2).bind fun t171 => ((chunk_Total.f k1 a0_0 l0_1 l0_2).bind fun t176 => ((pleachref19_Total.f k1 a0_0 l0_1 l0_2).bind fun t177 => (if t176 = t177 then ((chunk_Last.f a0_0 l0_1 l0_2).bind fun t178 => (if t178.toList = x10_1.toList then ((chunk_Find.f k1 a0_0 l0_1 l0_2 a1).bind fun t179 => (if t179 = x9_1 then ((chunk_Twig.f k1 a0_0 l0_1 l0_2 a2).bind fun bt180 => (if (bt180.1.toList == x10_1.toList && (bt180.2.1.toList == a2.toList && (bt180.2.2 == t166))) = true then ((chunk_Over.f k1 a3 (([(⟨x10_1, a2, t166⟩ : S32), (⟨a1, (⟨#[120]⟩ : ByteArray), 3⟩ : S32)] : List (S32)))).bind fun bt186 => ((pleachref19_Same.f k1 bt186.1 bt186.2.1 bt186.2.2 a3 y168 (([t171, 3] : List Int))).bind fun t193 => (if t193 = true then ((pleachlaw19_awake.f).bind fun t194 => (some t194)) else (some false)))) else (some false))) else (some false))) else (some false))) else (some false))))) = some r := by first | (rw [hy168]; with_reducible exact H) | (have H2_ := (Option.bind_some _ _).symm.trans H; rw [hy168]; with_reducible exact H2_) | (have H2_ := (Option.bind_some _ _).symm.trans H; with_reducible exact H2_) | with_reducible exact H | (rw [hy168]; exact H) | exact H
          have Ny168 := Aside0.mk hy168
          clear hy168
          replace H := Option.bind_eq_some_iff.mp H
          obtain ⟨t171, A260, H⟩ := H
          replace H : ((chunk_Total.f k1 a0_0 l0_1 l0_2).bind fun t176 => ((pleachref19_Total.f k1 a0_0 l0_1 l0_2).bind fun t177 => (if t176 = t177 then ((chunk_Last.f a0_0 l0_1 l0_2).bind fun t178 => (if t178.toList = x10_1.toList then ((chunk_Find.f k1 a0_0 l0_1 l0_2 a1).bind fun t179 => (if t179 = x9_1 then ((chunk_Twig.f k1 a0_0 l0_1 l0_2 a2).bind fun bt180 => (if (bt180.1.toList == x10_1.toList && (bt180.2.1.toList == a2.toList && (bt180.2.2 == t166))) = true then ((chunk_Over.f k1 a3 (([(⟨x10_1, a2, t166⟩ : S32), (⟨a1, (⟨#[120]⟩ : ByteArray), 3⟩ : S32)] : List (S32)))).bind fun bt186 => ((pleachref19_Same.f k1 bt186.1 bt186.2.1 bt186.2.2 a3 y168 (([t171, 3] : List Int))).bind fun t193 => (if t193 = true then ((pleachlaw19_awake.f).bind fun t194 => (some t194)) else (some false)))) else (some false))) else (some false))) else (some false))) else (some false)))) = some r := H
          have A26 := Aside0.mk A260
          clear A260
          obtain ⟨y172, hy172⟩ : ∃ y_ : List Int, y_ = (([t171, 3] : List Int)) := ⟨_, rfl⟩
          replace H : ((chunk_Total.f k1 a0_0 l0_1 l0_2).bind fun t176 => ((pleachref19_Total.f k1 a0_0 l0_1 l0_2).bind fun t177 => (if t176 = t177 then ((chunk_Last.f a0_0 l0_1 l0_2).bind fun t178 => (if t178.toList = x10_1.toList then ((chunk_Find.f k1 a0_0 l0_1 l0_2 a1).bind fun t179 => (if t179 = x9_1 then ((chunk_Twig.f k1 a0_0 l0_1 l0_2 a2).bind fun bt180 => (if (bt180.1.toList == x10_1.toList && (bt180.2.1.toList == a2.toList && (bt180.2.2 == t166))) = true then ((chunk_Over.f k1 a3 (([(⟨x10_1, a2, t166⟩ : S32), (⟨a1, (⟨#[120]⟩ : ByteArray), 3⟩ : S32)] : List (S32)))).bind fun bt186 => ((pleachref19_Same.f k1 bt186.1 bt186.2.1 bt186.2.2 a3 y168 y172).bind fun t193 => (if t193 = true then ((pleachlaw19_awake.f).bind fun t194 => (some t194)) else (some false)))) else (some false))) else (some false))) else (some false))) else (some false)))) = some r := by first | (rw [hy172]; with_reducible exact H) | (have H2_ := (Option.bind_some _ _).symm.trans H; rw [hy172]; with_reducible exact H2_) | (have H2_ := (Option.bind_some _ _).symm.trans H; with_reducible exact H2_) | with_reducible exact H | (rw [hy172]; exact H) | exact H
          have Ny172 := Aside0.mk hy172
          clear hy172
          replace H := Option.bind_eq_some_iff.mp H
          obtain ⟨t176, A270, H⟩ := H
          replace H : ((pleachref19_Total.f k1 a0_0 l0_1 l0_2).bind fun t177 => (if t176 = t177 then ((chunk_Last.f a0_0 l0_1 l0_2).bind fun t178 => (if t178.toList = x10_1.toList then ((chunk_Find.f k1 a0_0 l0_1 l0_2 a1).bind fun t179 => (if t179 = x9_1 then ((chunk_Twig.f k1 a0_0 l0_1 l0_2 a2).bind fun bt180 => (if (bt180.1.toList == x10_1.toList && (bt180.2.1.toList == a2.toList && (bt180.2.2 == t166))) = true then ((chunk_Over.f k1 a3 (([(⟨x10_1, a2, t166⟩ : S32), (⟨a1, (⟨#[120]⟩ : ByteArray), 3⟩ : S32)] : List (S32)))).bind fun bt186 => ((pleachref19_Same.f k1 bt186.1 bt186.2.1 bt186.2.2 a3 y168 y172).bind fun t193 => (if t193 = true then ((pleachlaw19_awake.f).bind fun t194 => (some t194)) else (some false)))) else (some false))) else (some false))) else (some false))) else (some false))) = some r := H
          have A27 := Aside0.mk A270
          clear A270
          replace H := Option.bind_eq_some_iff.mp H
          obtain ⟨t177, A280, H⟩ := H
          replace H : (if t176 = t177 then ((chunk_Last.f a0_0 l0_1 l0_2).bind fun t178 => (if t178.toList = x10_1.toList then ((chunk_Find.f k1 a0_0 l0_1 l0_2 a1).bind fun t179 => (if t179 = x9_1 then ((chunk_Twig.f k1 a0_0 l0_1 l0_2 a2).bind fun bt180 => (if (bt180.1.toList == x10_1.toList && (bt180.2.1.toList == a2.toList && (bt180.2.2 == t166))) = true then ((chunk_Over.f k1 a3 (([(⟨x10_1, a2, t166⟩ : S32), (⟨a1, (⟨#[120]⟩ : ByteArray), 3⟩ : S32)] : List (S32)))).bind fun bt186 => ((pleachref19_Same.f k1 bt186.1 bt186.2.1 bt186.2.2 a3 y168 y172).bind fun t193 => (if t193 = true then ((pleachlaw19_awake.f).bind fun t194 => (some t194)) else (some false)))) else (some false))) else (some false))) else (some false))) else (some false)) = some r := H
          have A28 := Aside0.mk A280
          clear A280
          by_cases c29 : t176 = t177
          · rw [if_pos c29] at H
            have c29b0 : (t176 == t177) = true := beq_iff_eq.mpr c29
            have c29b1 : (t176 != t177) = false := bne_eq_false_iff_eq.mpr c29
            clear c29
            replace H := Option.bind_eq_some_iff.mp H
            obtain ⟨t178, A300, H⟩ := H
            replace H : (if t178.toList = x10_1.toList then ((chunk_Find.f k1 a0_0 l0_1 l0_2 a1).bind fun t179 => (if t179 = x9_1 then ((chunk_Twig.f k1 a0_0 l0_1 l0_2 a2).bind fun bt180 => (if (bt180.1.toList == x10_1.toList && (bt180.2.1.toList == a2.toList && (bt180.2.2 == t166))) = true then ((chunk_Over.f k1 a3 (([(⟨x10_1, a2, t166⟩ : S32), (⟨a1, (⟨#[120]⟩ : ByteArray), 3⟩ : S32)] : List (S32)))).bind fun bt186 => ((pleachref19_Same.f k1 bt186.1 bt186.2.1 bt186.2.2 a3 y168 y172).bind fun t193 => (if t193 = true then ((pleachlaw19_awake.f).bind fun t194 => (some t194)) else (some false)))) else (some false))) else (some false))) else (some false)) = some r := H
            have A30 := Aside0.mk A300
            clear A300
            by_cases c31 : t178.toList = x10_1.toList
            · rw [if_pos c31] at H
              have c31b0 : (t178.toList == x10_1.toList) = true := beq_iff_eq.mpr c31
              have c31b1 : (t178.toList != x10_1.toList) = false := bne_eq_false_iff_eq.mpr c31
              clear c31
              replace H := Option.bind_eq_some_iff.mp H
              obtain ⟨t179, A320, H⟩ := H
              replace H : (if t179 = x9_1 then ((chunk_Twig.f k1 a0_0 l0_1 l0_2 a2).bind fun bt180 => (if (bt180.1.toList == x10_1.toList && (bt180.2.1.toList == a2.toList && (bt180.2.2 == t166))) = true then ((chunk_Over.f k1 a3 (([(⟨x10_1, a2, t166⟩ : S32), (⟨a1, (⟨#[120]⟩ : ByteArray), 3⟩ : S32)] : List (S32)))).bind fun bt186 => ((pleachref19_Same.f k1 bt186.1 bt186.2.1 bt186.2.2 a3 y168 y172).bind fun t193 => (if t193 = true then ((pleachlaw19_awake.f).bind fun t194 => (some t194)) else (some false)))) else (some false))) else (some false)) = some r := H
              have A32 := Aside0.mk A320
              clear A320
              by_cases c33 : t179 = x9_1
              · rw [if_pos c33] at H
                have c33b0 : (t179 == x9_1) = true := beq_iff_eq.mpr c33
                have c33b1 : (t179 != x9_1) = false := bne_eq_false_iff_eq.mpr c33
                clear c33
                replace H := Option.bind_eq_some_iff.mp H
                obtain ⟨⟨t180, t181, t182⟩, A340, H⟩ := H
                replace H : (if (t180.toList == x10_1.toList && (t181.toList == a2.toList && (t182 == t166))) = true then ((chunk_Over.f k1 a3 (([(⟨x10_1, a2, t166⟩ : S32), (⟨a1, (⟨#[120]⟩ : ByteArray), 3⟩ : S32)] : List (S32)))).bind fun bt186 => ((pleachref19_Same.f k1 bt186.1 bt186.2.1 bt186.2.2 a3 y168 y172).bind fun t193 => (if t193 = true then ((pleachlaw19_awake.f).bind fun t194 => (some t194)) else (some false)))) else (some false)) = some r := H
                have A34 := Aside0.mk A340
                clear A340
                by_cases c35 : (t180.toList == x10_1.toList && (t181.toList == a2.toList && (t182 == t166))) = true
                · rw [if_pos c35] at H
                  have c35b0 : (t180.toList == x10_1.toList && (t181.toList == a2.toList && (t182 == t166))) = true := c35
                  (try (have c35b1 : decide (t180.toList = x10_1.toList && (t181.toList == a2.toList && (t182 == t166))) = true := by simpa using c35))
                  (try (have c35b2 : (t180.toList == x10_1.toList && (t181.toList == a2.toList && (t182 == t166))) = true := by simpa using c35))
                  clear c35
                  obtain ⟨y183, hy183⟩ : ∃ y_ : List (S32), y_ = (([(⟨x10_1, a2, t166⟩ : S32), (⟨a1, (⟨#[120]⟩ : ByteArray), 3⟩ : S32)] : List (S32))) := ⟨_, rfl⟩
                  replace H : ((chunk_Over.f k1 a3 y183).bind fun bt186 => ((pleachref19_Same.f k1 bt186.1 bt186.2.1 bt186.2.2 a3 y168 y172).bind fun t193 => (if t193 = true then ((pleachlaw19_awake.f).bind fun t194 => (some t194)) else (some false)))) = some r := by first | (rw [hy183]; with_reducible exact H) | (have H2_ := (Option.bind_some _ _).symm.trans H; rw [hy183]; with_reducible exact H2_) | (have H2_ := (Option.bind_some _ _).symm.trans H; with_reducible exact H2_) | with_reducible exact H | (rw [hy183]; exact H) | exact H
                  have Ny183 := Aside0.mk hy183
                  clear hy183
                  replace H := Option.bind_eq_some_iff.mp H
                  obtain ⟨⟨t186, t187, t190⟩, A360, H⟩ := H
                  replace H : ((pleachref19_Same.f k1 t186 t187 t190 a3 y168 y172).bind fun t193 => (if t193 = true then ((pleachlaw19_awake.f).bind fun t194 => (some t194)) else (some false))) = some r := H
                  have A36 := Aside0.mk A360
                  clear A360
                  replace H := Option.bind_eq_some_iff.mp H
                  obtain ⟨t193, A370, H⟩ := H
                  replace H : (if t193 = true then ((pleachlaw19_awake.f).bind fun t194 => (some t194)) else (some false)) = some r := H
                  have A37 := Aside0.mk A370
                  clear A370
                  by_cases c38 : t193 = true
                  · subst c38
                    have H1 : ((pleachlaw19_awake.f).bind fun t194 => (some t194)) = some r := by rw [if_pos rfl] at H; exact H
                    clear H
                    have H := H1
                    clear H1
                    replace H := Option.bind_eq_some_iff.mp H
                    obtain ⟨t194, A390, H⟩ := H
                    replace H : (some t194) = some r := H
                    have A39 := Aside0.mk A390
                    clear A390
                    obtain rfl := Option.some.inj H
                    obtain ⟨zaR, zaS, zaT⟩ := M.bc3 (w := wr) (a := .int .i64 a0_0) (b := .slice A0_1 l0_1.length c0_1) (c := .slice A0_2 l0_2.length c0_2) zae.out
                    obtain ⟨zaU, zaV, zaW⟩ := M.bf3 zae
                    try go_wp2_with (first | ((with_reducible refine gate_callee (f := 8) rfl ?_); refine M.goes (some 44) Try.func8 #[.agg #[.int .i64 a0_0, .slice A0_1 l0_1.length c0_1, .slice A0_2 l0_2.length c0_2]] rfl ?_; (with_reducible refine (pleachref19_Total.calls k1 a0_0 _ _ l0_1 _ _ l0_2 t166 _ ?side1 ?side2 ?side3 ?side4 A25.out).mono ?_); (case side1 => exact M.cB HR0_1 HB); (case side2 => exact HC0_1.out); (case side3 => exact M.cB HR0_2 HB); (case side4 => exact HC0_2.out); rintro e w41 ⟨rfl, hb⟩; refine ⟨_, rfl, ?_⟩; have n0_ := M.bkB zae hb; have n1_ := M.upS HB hb; clear zae HB; have zae := n0_; have HB := n1_; clear n0_ n1_; (try clear hb)) | ((with_reducible refine gate_dst (N := 13) rfl ?_); (try (refine gate_guard (by rfl) ?_; dsimp only)); refine box_event ?hg (N := 13) ?hd (cs := #[.string (⟨#[]⟩ : ByteArray), .string (⟨#[]⟩ : ByteArray), .int .i64 0]) (t := 32) ?hr ?_; (case hd => rfl); (case hg => rfl); (case hr => first | (go_simp; done) | (go_simp; rfl)); intro zaX hg w42 hbox hb; have n0_ := M.bkB zae hb; have n1_ := M.upS HB hb; have n2_ := Aside0.mk (hbox); have n3_ := M.upG HB hg; have n4_ := M.upG HB hg; have n5_ := M.bkL zae hg; have n6_ := M.bkG zae hg; clear zae HB; have zae := n0_; have HB := n1_; have zaY := n2_; have zaZ := n3_; have za0 := n4_; have za1 := n5_; have za2 := n6_; clear n0_ n1_ n2_ n3_ n4_ n5_ n6_; clear hb hbox hg; have za3 := za2.out; have za4 := za1.out; obtain ⟨za5, za6, za7⟩ := M.bc3 (w := w42) (a := .string (⟨#[]⟩ : ByteArray)) (b := .string (⟨#[]⟩ : ByteArray)) (c := .int .i64 0) zaY.out; obtain ⟨za8, za9, zba⟩ := M.bf3 zaY) | ((with_reducible refine gate_dst (N := 52) rfl ?_); (try (refine gate_guard (by rfl) ?_; dsimp only)); refine Kd.R_lit k29 _ 29 ?hg (N := 52) ?hd (xs := ([(⟨x10_1, a2⟩ : S29), (⟨a1, (⟨#[120]⟩ : ByteArray)⟩ : S29)] : List (S29))) (inner := [.string x10_1, .string a2, .string a1, .string (⟨#[120]⟩ : ByteArray)]) (ok := fun _ => True) (okp := fun _ => True) ?hr ?hp (fun _ hk => hk) trivial (Below.refl _ _) (Nat.le_refl _) (by simp) ?_; (case hd => rfl); (case hg => rfl); (case hr => first | (go_simp; done) | (go_simp; rfl)); (case hp => exact (Reps.c2 (show Kd.M k29 _ _ _ (⟨x10_1, a2⟩ : S29) [.string x10_1, .string a2] from (k29_mkM _ _ _ (⟨x10_1, a2⟩ : S29) )) (Reps.c2 (show Kd.M k29 _ _ _ (⟨a1, (⟨#[120]⟩ : ByteArray)⟩ : S29) [.string a1, .string (⟨#[120]⟩ : ByteArray)] from (k29_mkM _ _ _ (⟨a1, (⟨#[120]⟩ : ByteArray)⟩ : S29) )) (Reps.none _ _)))); intro v169 w45 ho46 hb hg_ hnew_; clear hg_ hnew_; (first | rw [← Ny168.out] at ho46 | (simp only [Int.reduceToNat] at ho46; rw [← Ny168.out] at ho46)); have n0_ := Aside0.mk (Kd.R_lower ho46 (below_size (M.up HB))); have n1_ := Aside0.mk (blk_below (g := zad) (o := .cells #[.int .i64 a0_0, .slice A0_1 l0_1.length c0_1, .slice A0_2 l0_2.length c0_2] 25 (0, 0)) (by (with_reducible repeat (first | refine blk_drewN ?_ _ | refine blk_drew ?_ | refine blk_alloc ?_ _)); refine blk_far ?_ za1.out _; (with_reducible repeat (first | refine blk_drewN ?_ _ | refine blk_drew ?_ | refine blk_alloc ?_ _)); refine blk_far ?_ za1.out _; (with_reducible repeat (first | refine blk_drewN ?_ _ | refine blk_drew ?_ | refine blk_alloc ?_ _)); refine blk_far ?_ za1.out _; (with_reducible repeat (first | refine blk_drewN ?_ _ | refine blk_drew ?_ | refine blk_alloc ?_ _)); exact zae.out) hb); have n2_ := Aside0.mk (blk_below (g := zaX) (o := .cells #[.string x10_1, .string a2, .int .i64 t166] 32 (0, 0)) (by (with_reducible repeat (first | refine blk_drewN ?_ _ | refine blk_drew ?_ | refine blk_alloc ?_ _)); refine blk_put (cs := #[.string x10_1, .string a2, .int .i64 0]) ?_ 2 _ rfl; (with_reducible repeat (first | refine blk_drewN ?_ _ | refine blk_drew ?_ | refine blk_alloc ?_ _)); refine blk_put (cs := #[.string x10_1, .string (⟨#[]⟩ : ByteArray), .int .i64 0]) ?_ 1 _ rfl; (with_reducible repeat (first | refine blk_drewN ?_ _ | refine blk_drew ?_ | refine blk_alloc ?_ _)); refine blk_put (cs := #[.string (⟨#[]⟩ : ByteArray), .string (⟨#[]⟩ : ByteArray), .int .i64 0]) ?_ 0 _ rfl; (with_reducible repeat (first | refine blk_drewN ?_ _ | refine blk_drew ?_ | refine blk_alloc ?_ _)); exact zaY.out) hb); have n3_ := M.upS HB hb; clear zae zaY HB; have HO170 := n0_; have zae := n1_; have zaY := n2_; have HB := n3_; clear n0_ n1_ n2_ n3_; clear hb ho46; obtain ⟨zbb, zbc, zbd⟩ := M.bc3 (w := w45) (a := .int .i64 a0_0) (b := .slice A0_1 l0_1.length c0_1) (c := .slice A0_2 l0_2.length c0_2) zae.out; obtain ⟨zbe, zbf, zbg⟩ := M.bf3 zae) | ((with_reducible refine gate_callee (f := 8) rfl ?_); refine M.goes (some 54) Try.func8 #[.agg #[.int .i64 a0_0, .slice A0_1 l0_1.length c0_1, .slice A0_2 l0_2.length c0_2]] rfl ?_; (with_reducible refine (pleachref19_Total.calls k1 a0_0 _ _ l0_1 _ _ l0_2 t171 _ ?side1 ?side2 ?side3 ?side4 A26.out).mono ?_); (case side1 => exact M.cB HR0_1 HB); (case side2 => exact HC0_1.out); (case side3 => exact M.cB HR0_2 HB); (case side4 => exact HC0_2.out); rintro e w48 ⟨rfl, hb⟩; refine ⟨_, rfl, ?_⟩; have n0_ := M.roB HO170 hb; have n1_ := M.bkB zae hb; have n2_ := M.bkB zaY hb; have n3_ := M.upS HB hb; clear HO170 zae zaY HB; have HO170 := n0_; have zae := n1_; have zaY := n2_; have HB := n3_; clear n0_ n1_ n2_ n3_; (try clear hb)) | ((with_reducible refine gate_dst (N := 55) rfl ?_); (try (refine gate_guard (by rfl) ?_; dsimp only)); refine Kd.R_lit (Kd.int .i64) _ 3 ?hg (N := 55) ?hd (xs := ([t171, 3] : List Int)) (inner := [.int .i64 t171, .int .i64 3]) (ok := fun _ => True) (okp := fun _ => True) ?hr ?hp (fun _ hk => hk) trivial (Below.refl _ _) (Nat.le_refl _) (by simp) ?_; (case hd => rfl); (case hg => rfl); (case hr => first | (go_simp; done) | (go_simp; rfl)); (case hp => exact (Reps.one (show Kd.M (Kd.int .i64) _ _ _ t171 [.int .i64 t171] from rfl) (Reps.one (show Kd.M (Kd.int .i64) _ _ _ 3 [.int .i64 3] from rfl) (Reps.none _ _)))); intro v173 w49 ho50 hb hg_ hnew_; clear hg_ hnew_; (first | rw [← Ny172.out] at ho50 | (simp only [Int.reduceToNat] at ho50; rw [← Ny172.out] at ho50)); have n0_ := M.roB HO170 hb; have n1_ := Aside0.mk (Kd.R_lower ho50 (below_size (M.up HB))); have n2_ := M.bkB zae hb; have n3_ := M.bkB zaY hb; have n4_ := M.upS HB hb; clear HO170 zae zaY HB; have HO170 := n0_; have HO174 := n1_; have zae := n2_; have zaY := n3_; have HB := n4_; clear n0_ n1_ n2_ n3_ n4_; clear hb ho50; obtain ⟨Ao51, co51, eo51⟩ := Kd.R_slice HO174.out; subst eo51; obtain ⟨Ao52, co52, eo52⟩ := Kd.R_slice HO170.out; subst eo52) | ((with_reducible refine gate_dst (N := 14) rfl ?_); (try (refine gate_guard (by rfl) ?_; dsimp only)); refine box_event ?hg (N := 14) ?hd (cs := #[.int .i64 0, .slice none 0 0, .slice none 0 0]) (t := 25) ?hr ?_; (case hd => rfl); (case hg => rfl); (case hr => first | (go_simp; done) | (go_simp; rfl)); intro zbh hg w53 hbox hb; have n0_ := M.roB HO170 hb; have n1_ := M.roB HO174 hb; have n2_ := M.bkB zae hb; have n3_ := M.bkB zaY hb; have n4_ := M.upS HB hb; have n5_ := Aside0.mk (hbox); have n6_ := M.upG HB hg; have n7_ := M.upG HB hg; have n8_ := M.bkL zae hg; have n9_ := M.bkG zae hg; have n10_ := M.bkL zaY hg; have n11_ := M.bkG zaY hg; clear HO170 HO174 zae zaY HB; have HO170 := n0_; have HO174 := n1_; have zae := n2_; have zaY := n3_; have HB := n4_; have zbi := n5_; have zbj := n6_; have zbk := n7_; have zbl := n8_; have zbm := n9_; have zbn := n10_; have zbo := n11_; clear n0_ n1_ n2_ n3_ n4_ n5_ n6_ n7_ n8_ n9_ n10_ n11_; clear hb hbox hg; have zbp := zbm.out; have zbq := zbl.out; have zbr := zbo.out; have zbs := zbn.out; obtain ⟨zbt, zbu, zbv⟩ := M.bc3 (w := w53) (a := .int .i64 0) (b := .slice none 0 0) (c := .slice none 0 0) zbi.out; obtain ⟨zbw, zbx, zby⟩ := M.bf3 zbi))
                    have n0_ : Aside0 (Kd.R k29 29 (((w53.setCell ⟨zbh, 0, none⟩ (.int .i64 a3)).setCell ⟨zbh, 1, none⟩ (.slice Ao52 y168.length co52)).setCell ⟨zbh, 2, none⟩ (.slice Ao51 y172.length co51)) w.heap.size (fun _ => True) (.slice Ao52 y168.length co52) y168) := ⟨by (with_reducible repeat (first | apply Kd.R_alloc | apply Kd.R_drewN | apply Kd.R_drew)); exact Kd.R_mono (Kd.R_far (p := ⟨zbh, 2, none⟩) (Kd.R_far (p := ⟨zbh, 1, none⟩) (Kd.R_far (p := ⟨zbh, 0, none⟩) (Kd.R_types HO170.out zbi.out (by decide)) (fun _ hk => hk.2) (.int .i64 a3)) (fun _ hk => hk.2) (.slice Ao52 y168.length co52)) (fun _ hk => hk.2) (.slice Ao51 y172.length co51)) (fun _ hk => trivial)⟩
                    have n1_ : Aside0 (Kd.R (Kd.int .i64) 3 (((w53.setCell ⟨zbh, 0, none⟩ (.int .i64 a3)).setCell ⟨zbh, 1, none⟩ (.slice Ao52 y168.length co52)).setCell ⟨zbh, 2, none⟩ (.slice Ao51 y172.length co51)) w.heap.size (fun _ => True) (.slice Ao51 y172.length co51) y172) := ⟨by (with_reducible repeat (first | apply Kd.R_alloc | apply Kd.R_drewN | apply Kd.R_drew)); exact Kd.R_mono (Kd.R_far (p := ⟨zbh, 2, none⟩) (Kd.R_far (p := ⟨zbh, 1, none⟩) (Kd.R_far (p := ⟨zbh, 0, none⟩) (Kd.R_types HO174.out zbi.out (by decide)) (fun _ hk => hk.2) (.int .i64 a3)) (fun _ hk => hk.2) (.slice Ao52 y168.length co52)) (fun _ hk => hk.2) (.slice Ao51 y172.length co51)) (fun _ hk => trivial)⟩
                    have n2_ : Aside0 ((((w53.setCell ⟨zbh, 0, none⟩ (.int .i64 a3)).setCell ⟨zbh, 1, none⟩ (.slice Ao52 y168.length co52)).setCell ⟨zbh, 2, none⟩ (.slice Ao51 y172.length co51)).heap[zad]? = some (.cells #[.int .i64 a0_0, .slice A0_1 l0_1.length c0_1, .slice A0_2 l0_2.length c0_2] 25 (0, 0))) := ⟨by (with_reducible repeat (first | refine blk_drewN ?_ _ | refine blk_drew ?_ | refine blk_alloc ?_ _)); refine blk_far ?_ zbl.out _; (with_reducible repeat (first | refine blk_drewN ?_ _ | refine blk_drew ?_ | refine blk_alloc ?_ _)); refine blk_far ?_ zbl.out _; (with_reducible repeat (first | refine blk_drewN ?_ _ | refine blk_drew ?_ | refine blk_alloc ?_ _)); refine blk_far ?_ zbl.out _; (with_reducible repeat (first | refine blk_drewN ?_ _ | refine blk_drew ?_ | refine blk_alloc ?_ _)); exact zae.out⟩
                    have n3_ : Aside0 ((((w53.setCell ⟨zbh, 0, none⟩ (.int .i64 a3)).setCell ⟨zbh, 1, none⟩ (.slice Ao52 y168.length co52)).setCell ⟨zbh, 2, none⟩ (.slice Ao51 y172.length co51)).heap[zaX]? = some (.cells #[.string x10_1, .string a2, .int .i64 t166] 32 (0, 0))) := ⟨by (with_reducible repeat (first | refine blk_drewN ?_ _ | refine blk_drew ?_ | refine blk_alloc ?_ _)); refine blk_far ?_ zbn.out _; (with_reducible repeat (first | refine blk_drewN ?_ _ | refine blk_drew ?_ | refine blk_alloc ?_ _)); refine blk_far ?_ zbn.out _; (with_reducible repeat (first | refine blk_drewN ?_ _ | refine blk_drew ?_ | refine blk_alloc ?_ _)); refine blk_far ?_ zbn.out _; (with_reducible repeat (first | refine blk_drewN ?_ _ | refine blk_drew ?_ | refine blk_alloc ?_ _)); exact zaY.out⟩
                    have n4_ : Aside0 ((((w53.setCell ⟨zbh, 0, none⟩ (.int .i64 a3)).setCell ⟨zbh, 1, none⟩ (.slice Ao52 y168.length co52)).setCell ⟨zbh, 2, none⟩ (.slice Ao51 y172.length co51)).heap[zbh]? = some (.cells #[.int .i64 a3, .slice Ao52 y168.length co52, .slice Ao51 y172.length co51] 25 (0, 0))) := ⟨by (with_reducible repeat (first | refine blk_drewN ?_ _ | refine blk_drew ?_ | refine blk_alloc ?_ _)); refine blk_put (cs := #[.int .i64 a3, .slice Ao52 y168.length co52, .slice none 0 0]) ?_ 2 _ rfl; (with_reducible repeat (first | refine blk_drewN ?_ _ | refine blk_drew ?_ | refine blk_alloc ?_ _)); refine blk_put (cs := #[.int .i64 a3, .slice none 0 0, .slice none 0 0]) ?_ 1 _ rfl; (with_reducible repeat (first | refine blk_drewN ?_ _ | refine blk_drew ?_ | refine blk_alloc ?_ _)); refine blk_put (cs := #[.int .i64 0, .slice none 0 0, .slice none 0 0]) ?_ 0 _ rfl; (with_reducible repeat (first | refine blk_drewN ?_ _ | refine blk_drew ?_ | refine blk_alloc ?_ _)); exact zbi.out⟩
                    have n5_ : Aside0 (Below w.heap.size w (((w53.setCell ⟨zbh, 0, none⟩ (.int .i64 a3)).setCell ⟨zbh, 1, none⟩ (.slice Ao52 y168.length co52)).setCell ⟨zbh, 2, none⟩ (.slice Ao51 y172.length co51))) := ⟨M.up HB⟩
                    (try clear HO170)
                    (try clear HO174)
                    (try clear zae)
                    (try clear zaY)
                    (try clear zbi)
                    (try clear HB)
                    generalize (((w53.setCell ⟨zbh, 0, none⟩ (.int .i64 a3)).setCell ⟨zbh, 1, none⟩ (.slice Ao52 y168.length co52)).setCell ⟨zbh, 2, none⟩ (.slice Ao51 y172.length co51)) = w57 at n0_ n1_ n2_ n3_ n4_ n5_ ⊢
                    have HO170 := n0_
                    have HO174 := n1_
                    have zae := n2_
                    have zaY := n3_
                    have zbi := n4_
                    have HB := n5_
                    clear n0_ n1_ n2_ n3_ n4_ n5_
                    have n0_ := Aside0.mk (Kd.R_drew HO170.out)
                    have n1_ := Aside0.mk (Kd.R_drew HO174.out)
                    have n2_ := Aside0.mk (blk_drew zae.out)
                    have n3_ := Aside0.mk (blk_drew zaY.out)
                    have n4_ := Aside0.mk (blk_drew zbi.out)
                    have n5_ := Aside0.mk (below_drew1 HB.out)
                    clear HO170 HO174 zae zaY zbi HB
                    have HO170 := n0_
                    have HO174 := n1_
                    have zae := n2_
                    have zaY := n3_
                    have zbi := n4_
                    have HB := n5_
                    clear n0_ n1_ n2_ n3_ n4_ n5_
                    refine start_ (n := 39) (S := fun w' => w'.cell? ⟨zad, 0, none⟩ = some (.int .i64 a0_0) ∧ w'.cell? ⟨zad, 1, none⟩ = some (.slice A0_1 l0_1.length c0_1) ∧ w'.cell? ⟨zad, 2, none⟩ = some (.slice A0_2 l0_2.length c0_2) ∧ w'.cell? ⟨zaX, 0, none⟩ = some (.string x10_1) ∧ w'.cell? ⟨zaX, 1, none⟩ = some (.string a2) ∧ w'.cell? ⟨zaX, 2, none⟩ = some (.int .i64 t166) ∧ w'.cell? ⟨zbh, 0, none⟩ = some (.int .i64 a3) ∧ w'.cell? ⟨zbh, 1, none⟩ = some (.slice Ao52 y168.length co52) ∧ w'.cell? ⟨zbh, 2, none⟩ = some (.slice Ao51 y172.length co51)) (ds := []) (M.tf [0, 39]) (by kernel_rfl) rfl rfl ⟨(blk_cell zae.out 0).trans rfl, (blk_cell zae.out 1).trans rfl, (blk_cell zae.out 2).trans rfl, (blk_cell zaY.out 0).trans rfl, (blk_cell zaY.out 1).trans rfl, (blk_cell zaY.out 2).trans rfl, (blk_cell zbi.out 0).trans rfl, (blk_cell zbi.out 1).trans rfl, (blk_cell zbi.out 2).trans rfl⟩ (fun hHeld => ?_); refine with_tabW pleachlaw19_ChunkTells.tab13 pleachlaw19_ChunkTells.bits13 (fun HT_ HW_ => ?_)
                    generalize w57.drew = w58 at HO170 HO174 zae zaY zbi HB hHeld ⊢
                    refine take_ (i := 0) (N := some 57) (v := ?_) (a' := ?_) (M.tf [1, 38]) rfl rfl (take_ofW HT_.out HW_.out (by kernel_rfl)) (fun _ _ _ h => h) (Or.inl ⟨by rfl, ?_⟩) hHeld ?_ ?_
                    rotate_left
                    · rintro w' ⟨s0, s1, s2, s3, s4, s5, s6, s7, s8⟩
                      go_simp
                      with_reducible rfl
                    rotate_left
                    · simp only [Act.put, List.setIfInBounds_toArray, List.set_cons_zero, List.set_cons_succ, i64_w, i32_w]
                      rfl
                    refine take_ (i := 2) (N := some 59) (v := ?_) (a' := ?_) (M.tf [1, 1, 1, 36]) rfl rfl (take_ofW HT_.out HW_.out (by kernel_rfl)) (fun _ _ _ h => h) (Or.inl ⟨by rfl, ?_⟩) hHeld ?_ ?_
                    rotate_left
                    · rintro w' ⟨s0, s1, s2, s3, s4, s5, s6, s7, s8⟩
                      go_simp
                      with_reducible rfl
                    rotate_left
                    · simp only [Act.put, List.setIfInBounds_toArray, List.set_cons_zero, List.set_cons_succ, i64_w, i32_w]
                      rfl
                    refine one_ (i := 1) (N := some 58) (M.tf [3, 36]) rfl rfl (one_of HT_.out (by kernel_rfl)) (by decide) (fun K hK => ?_)
                    refine goes_ Try.func9 (by kernel_rfl) rfl #[.agg #[.int .i64 a0_0, .slice A0_1 l0_1.length c0_1, .slice A0_2 l0_2.length c0_2]] (by rfl) rfl rfl (by (try simp only [List.map_toArray, List.map_cons, List.map_nil]); first | done | rfl | (simp only [List.length_drop, List.length_take]; rfl)) ?_
                    with_reducible refine (chunk_Total.calls k1 a0_0 _ _ l0_1 _ _ l0_2 t176 _ ?side1 ?side2 ?side3 ?side4 A27.out).mono ?_
                    (case side1 => exact M.cB HR0_1 HB)
                    (case side2 => exact HC0_1.out)
                    (case side3 => exact M.cB HR0_2 HB)
                    (case side4 => exact HC0_2.out)
                    rintro e w59 ⟨rfl, hb⟩
                    refine ⟨_, rfl, ?_⟩
                    have n0_ := M.roB HO170 hb
                    have n1_ := M.roB HO174 hb
                    have n2_ := M.bkB zae hb
                    have n3_ := M.bkB zaY hb
                    have n4_ := M.bkB zbi hb
                    have n5_ := M.upS HB hb
                    clear HO170 HO174 zae zaY zbi HB
                    have HO170 := n0_
                    have HO174 := n1_
                    have zae := n2_
                    have zaY := n3_
                    have zbi := n4_
                    have HB := n5_
                    clear n0_ n1_ n2_ n3_ n4_ n5_
                    (try clear hb)
                    (try clear hb2)
                    (try clear hk)
                    (try clear hi)
                    refine hK.out _ _ ⟨(blk_cell zae.out 0).trans rfl, (blk_cell zae.out 1).trans rfl, (blk_cell zae.out 2).trans rfl, (blk_cell zaY.out 0).trans rfl, (blk_cell zaY.out 1).trans rfl, (blk_cell zaY.out 2).trans rfl, (blk_cell zbi.out 0).trans rfl, (blk_cell zbi.out 1).trans rfl, (blk_cell zbi.out 2).trans rfl⟩ (fun hHeld => ?_)
                    clear hK K
                    refine norm_ (a' := ?_) ?_ ?_
                    rotate_left
                    · show Act.put _ (some 58) _ = _
                      simp only [Act.put, List.setIfInBounds_toArray, List.set_cons_zero, List.set_cons_succ, i64_w, i32_w]
                      rfl
                    refine one_ (i := 3) (N := some 60) (M.tf [4, 35]) rfl rfl (one_of HT_.out (by kernel_rfl)) (by decide) (fun K hK => ?_)
                    refine goes_ Try.func8 (by kernel_rfl) rfl #[.agg #[.int .i64 a0_0, .slice A0_1 l0_1.length c0_1, .slice A0_2 l0_2.length c0_2]] (by rfl) rfl rfl (by (try simp only [List.map_toArray, List.map_cons, List.map_nil]); first | done | rfl | (simp only [List.length_drop, List.length_take]; rfl)) ?_
                    with_reducible refine (pleachref19_Total.calls k1 a0_0 _ _ l0_1 _ _ l0_2 t177 _ ?side1 ?side2 ?side3 ?side4 A28.out).mono ?_
                    (case side1 => exact M.cB HR0_1 HB)
                    (case side2 => exact HC0_1.out)
                    (case side3 => exact M.cB HR0_2 HB)
                    (case side4 => exact HC0_2.out)
                    rintro e w60 ⟨rfl, hb⟩
                    refine ⟨_, rfl, ?_⟩
                    have n0_ := M.roB HO170 hb
                    have n1_ := M.roB HO174 hb
                    have n2_ := M.bkB zae hb
                    have n3_ := M.bkB zaY hb
                    have n4_ := M.bkB zbi hb
                    have n5_ := M.upS HB hb
                    clear HO170 HO174 zae zaY zbi HB
                    have HO170 := n0_
                    have HO174 := n1_
                    have zae := n2_
                    have zaY := n3_
                    have zbi := n4_
                    have HB := n5_
                    clear n0_ n1_ n2_ n3_ n4_ n5_
                    (try clear hb)
                    (try clear hb2)
                    (try clear hk)
                    (try clear hi)
                    refine hK.out _ _ ⟨(blk_cell zae.out 0).trans rfl, (blk_cell zae.out 1).trans rfl, (blk_cell zae.out 2).trans rfl, (blk_cell zaY.out 0).trans rfl, (blk_cell zaY.out 1).trans rfl, (blk_cell zaY.out 2).trans rfl, (blk_cell zbi.out 0).trans rfl, (blk_cell zbi.out 1).trans rfl, (blk_cell zbi.out 2).trans rfl⟩ (fun hHeld => ?_)
                    clear hK K
                    refine norm_ (a' := ?_) ?_ ?_
                    rotate_left
                    · show Act.put _ (some 60) _ = _
                      simp only [Act.put, List.setIfInBounds_toArray, List.set_cons_zero, List.set_cons_succ, i64_w, i32_w]
                      rfl
                    refine pure_ (i := 4) (N := some 61) (v := ?_) (a' := ?_) (M.tf [5, 34]) rfl rfl (any_of HT_.out (by kernel_rfl)) (fun _ _ _ h => h) (Or.inl ⟨by rfl, ?_⟩) ?_ ?_
                    rotate_left
                    · intro w'
                      go_simp
                      with_reducible rfl
                    rotate_left
                    · simp only [Act.put, List.setIfInBounds_toArray, List.set_cons_zero, List.set_cons_succ, i64_w, i32_w]
                      rfl
                    refine pure_ (i := 5) (N := some 62) (v := ?_) (a' := ?_) (M.tf [6, 33]) rfl rfl (any_of HT_.out (by kernel_rfl)) (fun _ _ _ h => h) (Or.inl ⟨by rfl, ?_⟩) ?_ ?_
                    rotate_left
                    · intro w'
                      go_simp
                      with_reducible rfl
                    rotate_left
                    · simp only [Act.put, List.setIfInBounds_toArray, List.set_cons_zero, List.set_cons_succ, i64_w, i32_w]
                      rfl
                    refine pure_ (i := 8) (N := some 65) (v := ?_) (a' := ?_) (M.tf [6, 2, 1, 30]) rfl rfl (any_of HT_.out (by kernel_rfl)) (fun _ _ _ h => h) (Or.inl ⟨by rfl, ?_⟩) ?_ ?_
                    rotate_left
                    · intro w'
                      go_simp
                      with_reducible rfl
                    rotate_left
                    · simp only [Act.put, List.setIfInBounds_toArray, List.set_cons_zero, List.set_cons_succ, i64_w, i32_w]
                      rfl
                    refine take_ (i := 6) (N := some 63) (v := ?_) (a' := ?_) (M.tf [7, 1, 1, 30]) rfl rfl (take_ofW HT_.out HW_.out (by kernel_rfl)) (fun _ _ _ h => h) (Or.inl ⟨by rfl, ?_⟩) hHeld ?_ ?_
                    rotate_left
                    · rintro w' ⟨s0, s1, s2, s3, s4, s5, s6, s7, s8⟩
                      go_simp
                      with_reducible rfl
                    rotate_left
                    · simp only [Act.put, List.setIfInBounds_toArray, List.set_cons_zero, List.set_cons_succ, i64_w, i32_w]
                      rfl
                    refine one_ (i := 7) (N := some 64) (M.tf [9, 30]) rfl rfl (one_of HT_.out (by kernel_rfl)) (by decide) (fun K hK => ?_)
                    refine goes_ Try.func10 (by kernel_rfl) rfl #[.agg #[.int .i64 a0_0, .slice A0_1 l0_1.length c0_1, .slice A0_2 l0_2.length c0_2]] (by rfl) rfl rfl (by (try simp only [List.map_toArray, List.map_cons, List.map_nil]); first | done | rfl | (simp only [List.length_drop, List.length_take]; rfl)) ?_
                    with_reducible refine (chunk_Last.calls a0_0 _ _ l0_1 _ _ l0_2 t178 _ ?side1 ?side2 ?side3 ?side4 A30.out).mono ?_
                    (case side1 => exact M.cB HR0_1 HB)
                    (case side2 => exact HC0_1.out)
                    (case side3 => exact M.cB HR0_2 HB)
                    (case side4 => exact HC0_2.out)
                    rintro e w61 ⟨rfl, hb⟩
                    refine ⟨_, rfl, ?_⟩
                    have n0_ := M.roB HO170 hb
                    have n1_ := M.roB HO174 hb
                    have n2_ := M.bkB zae hb
                    have n3_ := M.bkB zaY hb
                    have n4_ := M.bkB zbi hb
                    have n5_ := M.upS HB hb
                    clear HO170 HO174 zae zaY zbi HB
                    have HO170 := n0_
                    have HO174 := n1_
                    have zae := n2_
                    have zaY := n3_
                    have zbi := n4_
                    have HB := n5_
                    clear n0_ n1_ n2_ n3_ n4_ n5_
                    (try clear hb)
                    (try clear hb2)
                    (try clear hk)
                    (try clear hi)
                    refine hK.out _ _ ⟨(blk_cell zae.out 0).trans rfl, (blk_cell zae.out 1).trans rfl, (blk_cell zae.out 2).trans rfl, (blk_cell zaY.out 0).trans rfl, (blk_cell zaY.out 1).trans rfl, (blk_cell zaY.out 2).trans rfl, (blk_cell zbi.out 0).trans rfl, (blk_cell zbi.out 1).trans rfl, (blk_cell zbi.out 2).trans rfl⟩ (fun hHeld => ?_)
                    clear hK K
                    refine norm_ (a' := ?_) ?_ ?_
                    rotate_left
                    · show Act.put _ (some 64) _ = _
                      simp only [Act.put, List.setIfInBounds_toArray, List.set_cons_zero, List.set_cons_succ, i64_w, i32_w]
                      rfl
                    refine pure_ (i := 9) (N := some 66) (v := ?_) (a' := ?_) (M.tf [10, 29]) rfl rfl (any_of HT_.out (by kernel_rfl)) (fun _ _ _ h => h) (Or.inl ⟨by rfl, ?_⟩) ?_ ?_
                    rotate_left
                    · intro w'
                      go_simp
                      with_reducible rfl
                    rotate_left
                    · simp only [Act.put, List.setIfInBounds_toArray, List.set_cons_zero, List.set_cons_succ, i64_w, i32_w]
                      rfl
                    refine pure_ (i := 10) (N := some 67) (v := ?_) (a' := ?_) (M.tf [11, 28]) rfl rfl (any_of HT_.out (by kernel_rfl)) (fun _ _ _ h => h) (Or.inl ⟨by rfl, ?_⟩) ?_ ?_
                    rotate_left
                    · intro w'
                      go_simp
                      with_reducible rfl
                    rotate_left
                    · simp only [Act.put, List.setIfInBounds_toArray, List.set_cons_zero, List.set_cons_succ, i64_w, i32_w]
                      rfl
                    refine pure_ (i := 11) (N := some 68) (v := ?_) (a' := ?_) (M.tf [12, 27]) rfl rfl (any_of HT_.out (by kernel_rfl)) (fun _ _ _ h => h) (Or.inl ⟨by rfl, ?_⟩) ?_ ?_
                    rotate_left
                    · intro w'
                      go_simp
                      with_reducible rfl
                    rotate_left
                    · simp only [Act.put, List.setIfInBounds_toArray, List.set_cons_zero, List.set_cons_succ, i64_w, i32_w]
                      rfl
                    refine pure_ (i := 13) (N := some 70) (v := ?_) (a' := ?_) (M.tf [12, 1, 1, 25]) rfl rfl (any_of HT_.out (by kernel_rfl)) (fun _ _ _ h => h) (Or.inl ⟨by rfl, ?_⟩) ?_ ?_
                    rotate_left
                    · intro w'
                      go_simp
                      with_reducible rfl
                    rotate_left
                    · simp only [Act.put, List.setIfInBounds_toArray, List.set_cons_zero, List.set_cons_succ, i64_w, i32_w]
                      rfl
                    refine pure_ (i := 15) (N := some 72) (v := ?_) (a' := ?_) (M.tf [12, 1, 1, 1, 1, 23]) rfl rfl (any_of HT_.out (by kernel_rfl)) (fun _ _ _ h => h) (Or.inl ⟨by rfl, ?_⟩) ?_ ?_
                    rotate_left
                    · intro w'
                      go_simp
                      with_reducible rfl
                    rotate_left
                    · simp only [Act.put, List.setIfInBounds_toArray, List.set_cons_zero, List.set_cons_succ, i64_w, i32_w]
                      rfl
                    refine take_ (i := 12) (N := some 69) (v := ?_) (a' := ?_) (M.tf [14, 1, 1, 23]) rfl rfl (take_ofW HT_.out HW_.out (by kernel_rfl)) (fun _ _ _ h => h) (Or.inl ⟨by rfl, ?_⟩) hHeld ?_ ?_
                    rotate_left
                    · rintro w' ⟨s0, s1, s2, s3, s4, s5, s6, s7, s8⟩
                      go_simp
                      with_reducible rfl
                    rotate_left
                    · simp only [Act.put, List.setIfInBounds_toArray, List.set_cons_zero, List.set_cons_succ, i64_w, i32_w]
                      rfl
                    refine one_ (i := 14) (N := some 71) (M.tf [16, 23]) rfl rfl (one_of HT_.out (by kernel_rfl)) (by decide) (fun K hK => ?_)
                    refine goes_ Try.func11 (by kernel_rfl) rfl #[.agg #[.int .i64 a0_0, .slice A0_1 l0_1.length c0_1, .slice A0_2 l0_2.length c0_2], .string a1] (by rfl) rfl rfl (by (try simp only [List.map_toArray, List.map_cons, List.map_nil]); first | done | rfl | (simp only [List.length_drop, List.length_take]; rfl)) ?_
                    with_reducible refine (chunk_Find.calls k1 a0_0 _ _ l0_1 _ _ l0_2 a1 t179 _ ?side1 ?side2 ?side3 ?side4 A32.out).mono ?_
                    (case side1 => exact M.cB HR0_1 HB)
                    (case side2 => exact HC0_1.out)
                    (case side3 => exact M.cB HR0_2 HB)
                    (case side4 => exact HC0_2.out)
                    rintro e w62 ⟨rfl, hb⟩
                    refine ⟨_, rfl, ?_⟩
                    have n0_ := M.roB HO170 hb
                    have n1_ := M.roB HO174 hb
                    have n2_ := M.bkB zae hb
                    have n3_ := M.bkB zaY hb
                    have n4_ := M.bkB zbi hb
                    have n5_ := M.upS HB hb
                    clear HO170 HO174 zae zaY zbi HB
                    have HO170 := n0_
                    have HO174 := n1_
                    have zae := n2_
                    have zaY := n3_
                    have zbi := n4_
                    have HB := n5_
                    clear n0_ n1_ n2_ n3_ n4_ n5_
                    (try clear hb)
                    (try clear hb2)
                    (try clear hk)
                    (try clear hi)
                    refine hK.out _ _ ⟨(blk_cell zae.out 0).trans rfl, (blk_cell zae.out 1).trans rfl, (blk_cell zae.out 2).trans rfl, (blk_cell zaY.out 0).trans rfl, (blk_cell zaY.out 1).trans rfl, (blk_cell zaY.out 2).trans rfl, (blk_cell zbi.out 0).trans rfl, (blk_cell zbi.out 1).trans rfl, (blk_cell zbi.out 2).trans rfl⟩ (fun hHeld => ?_)
                    clear hK K
                    refine norm_ (a' := ?_) ?_ ?_
                    rotate_left
                    · show Act.put _ (some 71) _ = _
                      simp only [Act.put, List.setIfInBounds_toArray, List.set_cons_zero, List.set_cons_succ, i64_w, i32_w]
                      rfl
                    refine pure_ (i := 16) (N := some 73) (v := ?_) (a' := ?_) (M.tf [17, 22]) rfl rfl (any_of HT_.out (by kernel_rfl)) (fun _ _ _ h => h) (Or.inl ⟨by rfl, ?_⟩) ?_ ?_
                    rotate_left
                    · intro w'
                      go_simp
                      with_reducible rfl
                    rotate_left
                    · simp only [Act.put, List.setIfInBounds_toArray, List.set_cons_zero, List.set_cons_succ, i64_w, i32_w]
                      rfl
                    refine pure_ (i := 17) (N := some 74) (v := ?_) (a' := ?_) (M.tf [18, 21]) rfl rfl (any_of HT_.out (by kernel_rfl)) (fun _ _ _ h => h) (Or.inl ⟨by rfl, ?_⟩) ?_ ?_
                    rotate_left
                    · intro w'
                      go_simp
                      with_reducible rfl
                    rotate_left
                    · simp only [Act.put, List.setIfInBounds_toArray, List.set_cons_zero, List.set_cons_succ, i64_w, i32_w]
                      rfl
                    refine pure_ (i := 18) (N := some 75) (v := ?_) (a' := ?_) (M.tf [19, 20]) rfl rfl (any_of HT_.out (by kernel_rfl)) (fun _ _ _ h => h) (Or.inl ⟨by rfl, ?_⟩) ?_ ?_
                    rotate_left
                    · intro w'
                      go_simp
                      with_reducible rfl
                    rotate_left
                    · simp only [Act.put, List.setIfInBounds_toArray, List.set_cons_zero, List.set_cons_succ, i64_w, i32_w]
                      rfl
                    refine pure_ (i := 20) (N := some 77) (v := ?_) (a' := ?_) (M.tf [19, 1, 1, 18]) rfl rfl (any_of HT_.out (by kernel_rfl)) (fun _ _ _ h => h) (Or.inl ⟨by rfl, ?_⟩) ?_ ?_
                    rotate_left
                    · intro w'
                      go_simp
                      with_reducible rfl
                    rotate_left
                    · simp only [Act.put, List.setIfInBounds_toArray, List.set_cons_zero, List.set_cons_succ, i64_w, i32_w]
                      rfl
                    refine take_ (i := 19) (N := some 76) (v := ?_) (a' := ?_) (M.tf [21, 18]) rfl rfl (take_ofW HT_.out HW_.out (by kernel_rfl)) (fun _ _ _ h => h) (Or.inl ⟨by rfl, ?_⟩) hHeld ?_ ?_
                    rotate_left
                    · rintro w' ⟨s0, s1, s2, s3, s4, s5, s6, s7, s8⟩
                      go_simp
                      with_reducible rfl
                    rotate_left
                    · simp only [Act.put, List.setIfInBounds_toArray, List.set_cons_zero, List.set_cons_succ, i64_w, i32_w]
                      rfl
                    refine take_ (i := 22) (N := some 79) (v := ?_) (a' := ?_) (M.tf [21, 1, 1, 16]) rfl rfl (take_ofW HT_.out HW_.out (by kernel_rfl)) (fun _ _ _ h => h) (Or.inl ⟨by rfl, ?_⟩) hHeld ?_ ?_
                    rotate_left
                    · rintro w' ⟨s0, s1, s2, s3, s4, s5, s6, s7, s8⟩
                      go_simp
                      with_reducible rfl
                    rotate_left
                    · simp only [Act.put, List.setIfInBounds_toArray, List.set_cons_zero, List.set_cons_succ, i64_w, i32_w]
                      rfl
                    refine one_ (i := 21) (N := some 78) (M.tf [23, 16]) rfl rfl (one_of HT_.out (by kernel_rfl)) (by decide) (fun K hK => ?_)
                    refine goes_ Try.func12 (by kernel_rfl) rfl #[.agg #[.int .i64 a0_0, .slice A0_1 l0_1.length c0_1, .slice A0_2 l0_2.length c0_2], .string a2] (by rfl) rfl rfl (by (try simp only [List.map_toArray, List.map_cons, List.map_nil]); first | done | rfl | (simp only [List.length_drop, List.length_take]; rfl)) ?_
                    with_reducible refine (chunk_Twig.calls k1 a0_0 _ _ l0_1 _ _ l0_2 a2 t180 t181 t182 _ ?side1 ?side2 ?side3 ?side4 A34.out).mono ?_
                    (case side1 => exact M.cB HR0_1 HB)
                    (case side2 => exact HC0_1.out)
                    (case side3 => exact M.cB HR0_2 HB)
                    (case side4 => exact HC0_2.out)
                    rintro e w63 ⟨rfl, hb⟩
                    refine ⟨_, rfl, ?_⟩
                    have n0_ := M.roB HO170 hb
                    have n1_ := M.roB HO174 hb
                    have n2_ := M.bkB zae hb
                    have n3_ := M.bkB zaY hb
                    have n4_ := M.bkB zbi hb
                    have n5_ := M.upS HB hb
                    clear HO170 HO174 zae zaY zbi HB
                    have HO170 := n0_
                    have HO174 := n1_
                    have zae := n2_
                    have zaY := n3_
                    have zbi := n4_
                    have HB := n5_
                    clear n0_ n1_ n2_ n3_ n4_ n5_
                    (try clear hb)
                    (try clear hb2)
                    (try clear hk)
                    (try clear hi)
                    refine hK.out _ _ ⟨(blk_cell zae.out 0).trans rfl, (blk_cell zae.out 1).trans rfl, (blk_cell zae.out 2).trans rfl, (blk_cell zaY.out 0).trans rfl, (blk_cell zaY.out 1).trans rfl, (blk_cell zaY.out 2).trans rfl, (blk_cell zbi.out 0).trans rfl, (blk_cell zbi.out 1).trans rfl, (blk_cell zbi.out 2).trans rfl⟩ (fun hHeld => ?_)
                    clear hK K
                    refine norm_ (a' := ?_) ?_ ?_
                    rotate_left
                    · show Act.put _ (some 78) _ = _
                      simp only [Act.put, List.setIfInBounds_toArray, List.set_cons_zero, List.set_cons_succ, i64_w, i32_w]
                      rfl
                    refine pure_ (i := 23) (N := some 80) (v := ?_) (a' := ?_) (M.tf [24, 15]) rfl rfl (any_of HT_.out (by kernel_rfl)) (fun _ _ _ h => h) (Or.inl ⟨by rfl, ?_⟩) ?_ ?_
                    rotate_left
                    · intro w'
                      go_simp
                      with_reducible rfl
                    rotate_left
                    · simp only [Act.put, List.setIfInBounds_toArray, List.set_cons_zero, List.set_cons_succ, i64_w, i32_w]
                      rfl
                    refine pure_ (i := 24) (N := some 81) (v := ?_) (a' := ?_) (M.tf [25, 14]) rfl rfl (any_of HT_.out (by kernel_rfl)) (fun _ _ _ h => h) (Or.inl ⟨by rfl, ?_⟩) ?_ ?_
                    rotate_left
                    · intro w'
                      go_simp
                      with_reducible rfl
                    rotate_left
                    · simp only [Act.put, List.setIfInBounds_toArray, List.set_cons_zero, List.set_cons_succ, i64_w, i32_w]
                      rfl
                    refine pure_ (i := 25) (N := some 82) (v := ?_) (a' := ?_) (M.tf [26, 13]) rfl rfl (any_of HT_.out (by kernel_rfl)) (fun _ _ _ h => h) (Or.inl ⟨by rfl, ?_⟩) ?_ ?_
                    rotate_left
                    · intro w'
                      go_simp
                      with_reducible rfl
                    rotate_left
                    · simp only [Act.put, List.setIfInBounds_toArray, List.set_cons_zero, List.set_cons_succ, i64_w, i32_w]
                      rfl
                    refine pure_ (i := 26) (N := some 83) (v := ?_) (a' := ?_) (M.tf [27, 12]) rfl rfl (any_of HT_.out (by kernel_rfl)) (fun _ _ _ h => h) (Or.inl ⟨by rfl, ?_⟩) ?_ ?_
                    rotate_left
                    · intro w'
                      go_simp
                      with_reducible rfl
                    rotate_left
                    · simp only [Act.put, List.setIfInBounds_toArray, List.set_cons_zero, List.set_cons_succ, i64_w, i32_w]
                      rfl
                    refine pure_ (i := 28) (N := some 85) (v := ?_) (a' := ?_) (M.tf [27, 1, 1, 10]) rfl rfl (any_of HT_.out (by kernel_rfl)) (fun _ _ _ h => h) (Or.inl ⟨by rfl, ?_⟩) ?_ ?_
                    rotate_left
                    · intro w'
                      go_simp
                      with_reducible rfl
                    rotate_left
                    · simp only [Act.put, List.setIfInBounds_toArray, List.set_cons_zero, List.set_cons_succ, i64_w, i32_w]
                      rfl
                    refine pure_ (i := 29) (N := some 86) (v := ?_) (a' := ?_) (M.tf [27, 1, 2, 9]) rfl rfl (any_of HT_.out (by kernel_rfl)) (fun _ _ _ h => h) (Or.inl ⟨by rfl, ?_⟩) ?_ ?_
                    rotate_left
                    · intro w'
                      go_simp
                      with_reducible rfl
                    rotate_left
                    · simp only [Act.put, List.setIfInBounds_toArray, List.set_cons_zero, List.set_cons_succ, i64_w, i32_w]
                      rfl
                    refine take_ (i := 27) (N := some 84) (v := ?_) (a' := ?_) (M.tf [30, 9]) rfl rfl (take_ofW HT_.out HW_.out (by kernel_rfl)) (fun _ _ _ h => h) (Or.inl ⟨by rfl, ?_⟩) hHeld ?_ ?_
                    rotate_left
                    · rintro w' ⟨s0, s1, s2, s3, s4, s5, s6, s7, s8⟩
                      go_simp
                      with_reducible rfl
                    rotate_left
                    · simp only [Act.put, List.setIfInBounds_toArray, List.set_cons_zero, List.set_cons_succ, i64_w, i32_w]
                      rfl
                    refine take_ (i := 32) (N := some 89) (v := ?_) (a' := ?_) (M.tf [30, 2, 1, 6]) rfl rfl (take_ofW HT_.out HW_.out (by kernel_rfl)) (fun _ _ _ h => h) (Or.inl ⟨by rfl, ?_⟩) hHeld ?_ ?_
                    rotate_left
                    · rintro w' ⟨s0, s1, s2, s3, s4, s5, s6, s7, s8⟩
                      go_simp
                      with_reducible rfl
                    rotate_left
                    · simp only [Act.put, List.setIfInBounds_toArray, List.set_cons_zero, List.set_cons_succ, i64_w, i32_w]
                      rfl
                    refine one_ (i := 30) (N := some 87) (M.tf [31, 1, 1, 6]) rfl rfl (one_of HT_.out (by kernel_rfl)) (by decide) (fun K hK => ?_)
                    refine Kd.R_lit_step k32 _ 32 ?hg (N := 87) ?hd (xs := ([(⟨x10_1, a2, t166⟩ : S32), (⟨a1, (⟨#[120]⟩ : ByteArray), 3⟩ : S32)] : List (S32))) (inner := [.string x10_1, .string a2, .int .i64 t166, .string a1, .string (⟨#[120]⟩ : ByteArray), .int .i64 3]) (ok := fun _ => True) (okp := fun _ => True) ?hr ?hp (fun _ hk => hk) trivial (Below.refl _ _) (Nat.le_refl _) (by simp) ?_; (case hd => rfl); (case hg => rfl); (case hr => first | (go_simp; done) | (go_simp; rfl)); (case hp => exact (Reps.c3 (show Kd.M k32 _ _ _ (⟨x10_1, a2, t166⟩ : S32) [.string x10_1, .string a2, .int .i64 t166] from (k32_mkM _ _ _ (⟨x10_1, a2, t166⟩ : S32) )) (Reps.c3 (show Kd.M k32 _ _ _ (⟨a1, (⟨#[120]⟩ : ByteArray), 3⟩ : S32) [.string a1, .string (⟨#[120]⟩ : ByteArray), .int .i64 3] from (k32_mkM _ _ _ (⟨a1, (⟨#[120]⟩ : ByteArray), 3⟩ : S32) )) (Reps.none _ _))))
                    intro v184 w64 ho65 hb hg_ hnew_
                    clear hg_ hnew_
                    (first | rw [← Ny183.out] at ho65 | (simp only [Int.reduceToNat] at ho65; rw [← Ny183.out] at ho65))
                    have n0_ := M.roB HO170 hb
                    have n1_ := M.roB HO174 hb
                    have n2_ := Aside0.mk (Kd.R_lower (Kd.R_newB ho65 (g := zaX) (o := .cells #[.string x10_1, .string a2, .int .i64 t166] 32 (0, 0)) (M.bk zaY)) (below_size (M.up HB)))
                    have n3_ := M.bkB zae hb
                    have n4_ := M.bkB zaY hb
                    have n5_ := M.bkB zbi hb
                    have n6_ := M.upS HB hb
                    clear HO170 HO174 zae zaY zbi HB
                    have HO170 := n0_
                    have HO174 := n1_
                    have HO185 := n2_
                    have zae := n3_
                    have zaY := n4_
                    have zbi := n5_
                    have HB := n6_
                    clear n0_ n1_ n2_ n3_ n4_ n5_ n6_
                    clear hb ho65
                    obtain ⟨Ao66, co66, eo66⟩ := Kd.R_slice HO185.out
                    (first | subst eo66 | (injection eo66 with f1_ f2_ f3_; have f4_ := f1_.symm; have f5_ := f3_.symm; clear f1_ f2_ f3_; subst f4_; subst f5_))
                    refine hK.out _ _ ⟨(blk_cell zae.out 0).trans rfl, (blk_cell zae.out 1).trans rfl, (blk_cell zae.out 2).trans rfl, (blk_cell zaY.out 0).trans rfl, (blk_cell zaY.out 1).trans rfl, (blk_cell zaY.out 2).trans rfl, (blk_cell zbi.out 0).trans rfl, (blk_cell zbi.out 1).trans rfl, (blk_cell zbi.out 2).trans rfl⟩ (fun hHeld => ?_)
                    clear hK K
                    refine norm_ (a' := ?_) ?_ ?_
                    rotate_left
                    · show Act.put _ (some 87) _ = _
                      simp only [Act.put, List.setIfInBounds_toArray, List.set_cons_zero, List.set_cons_succ, i64_w, i32_w]
                      rfl
                    refine one_ (i := 31) (N := some 88) (M.tf [33, 6]) rfl rfl (one_of HT_.out (by kernel_rfl)) (by decide) (fun K hK => ?_)
                    refine goes_ Try.func14 (by kernel_rfl) rfl #[.int .i64 a3, .slice Ao66 y183.length co66] (by rfl) rfl rfl (by (try simp only [List.map_toArray, List.map_cons, List.map_nil]); first | done | rfl | (simp only [List.length_drop, List.length_take]; rfl)) ?_
                    with_reducible refine (chunk_Over.calls k1 a3 _ _ y183 t186 t187 t190 _ ?side1 ?side2 A36.out).mono ?_
                    (case side1 => repeat (first | exact (Kd.R_reads' HO185.out).2.2 | (with_reducible refine Kd.C_alloc ?_ _) | (with_reducible refine Kd.C_drewN ?_ _) | (with_reducible refine Kd.C_drew ?_)))
                    (case side2 => exact (Kd.R_reads' HO185.out).2.1)
                    rintro e w67 ⟨v188, v191, rfl, ho0, ho1, hb⟩
                    refine ⟨_, rfl, ?_⟩
                    have n0_ := Aside0.mk (Kd.R_elder' (M.ro HO170) (Kd.R_base ho0) hb)
                    have n1_ := Aside0.mk (Kd.R_elder' (M.ro HO174) (Kd.R_base ho1) hb)
                    have n2_ := M.roB HO185 hb
                    have n3_ := Aside0.mk (Kd.R_lower (Kd.R_new' ho0 (Kd.R_lt (M.ro HO170))) (below_size (M.up HB)))
                    have n4_ := Aside0.mk (Kd.R_lower (Kd.R_new' ho1 (Kd.R_lt (M.ro HO174))) (below_size (M.up HB)))
                    have n5_ := M.bkB zae hb
                    have n6_ := M.bkB zaY hb
                    have n7_ := M.bkB zbi hb
                    have n8_ := M.upS HB hb
                    clear HO170 HO174 HO185 zae zaY zbi HB
                    have HO170 := n0_
                    have HO174 := n1_
                    have HO185 := n2_
                    have HO189 := n3_
                    have HO192 := n4_
                    have zae := n5_
                    have zaY := n6_
                    have zbi := n7_
                    have HB := n8_
                    clear n0_ n1_ n2_ n3_ n4_ n5_ n6_ n7_ n8_
                    (try clear hb)
                    (try clear hb2)
                    (try clear hk)
                    (try clear hi)
                    (try clear ho0)
                    (try clear ho1)
                    obtain ⟨Ao68, co68, eo68⟩ := Kd.R_slice HO189.out
                    (first | subst eo68 | (injection eo68 with f1_ f2_ f3_; have f4_ := f1_.symm; have f5_ := f3_.symm; clear f1_ f2_ f3_; subst f4_; subst f5_))
                    obtain ⟨Ao69, co69, eo69⟩ := Kd.R_slice HO192.out
                    (first | subst eo69 | (injection eo69 with f1_ f2_ f3_; have f4_ := f1_.symm; have f5_ := f3_.symm; clear f1_ f2_ f3_; subst f4_; subst f5_))
                    refine hK.out _ _ ⟨(blk_cell zae.out 0).trans rfl, (blk_cell zae.out 1).trans rfl, (blk_cell zae.out 2).trans rfl, (blk_cell zaY.out 0).trans rfl, (blk_cell zaY.out 1).trans rfl, (blk_cell zaY.out 2).trans rfl, (blk_cell zbi.out 0).trans rfl, (blk_cell zbi.out 1).trans rfl, (blk_cell zbi.out 2).trans rfl⟩ (fun hHeld => ?_)
                    clear hK K
                    refine norm_ (a' := ?_) ?_ ?_
                    rotate_left
                    · show Act.put _ (some 88) _ = _
                      simp only [Act.put, List.setIfInBounds_toArray, List.set_cons_zero, List.set_cons_succ, i64_w, i32_w]
                      rfl
                    refine one_ (i := 33) (N := some 90) (M.tf [34, 5]) rfl rfl (one_of HT_.out (by kernel_rfl)) (by decide) (fun K hK => ?_)
                    refine goes_ Try.func13 (by kernel_rfl) rfl #[.agg #[.int .i64 t186, .slice Ao68 t187.length co68, .slice Ao69 t190.length co69], .agg #[.int .i64 a3, .slice Ao52 y168.length co52, .slice Ao51 y172.length co51]] (by rfl) rfl rfl (by (try simp only [List.map_toArray, List.map_cons, List.map_nil]); first | done | rfl | (simp only [List.length_drop, List.length_take]; rfl)) ?_
                    with_reducible refine (pleachref19_Same.calls k1 t186 _ _ t187 _ _ t190 a3 _ _ y168 _ _ y172 true _ ?side1 ?side2 ?side3 ?side4 ?side5 ?side6 ?side7 ?side8 A37.out).mono ?_
                    (case side1 => repeat (first | exact (Kd.R_reads' HO189.out).2.2 | (with_reducible refine Kd.C_alloc ?_ _) | (with_reducible refine Kd.C_drewN ?_ _) | (with_reducible refine Kd.C_drew ?_)))
                    (case side2 => exact (Kd.R_reads' HO189.out).2.1)
                    (case side3 => repeat (first | exact (Kd.R_reads' HO192.out).2.2 | (with_reducible refine Kd.C_alloc ?_ _) | (with_reducible refine Kd.C_drewN ?_ _) | (with_reducible refine Kd.C_drew ?_)))
                    (case side4 => exact (Kd.R_reads' HO192.out).2.1)
                    (case side5 => repeat (first | exact (Kd.R_reads' HO170.out).2.2 | (with_reducible refine Kd.C_alloc ?_ _) | (with_reducible refine Kd.C_drewN ?_ _) | (with_reducible refine Kd.C_drew ?_)))
                    (case side6 => exact (Kd.R_reads' HO170.out).2.1)
                    (case side7 => repeat (first | exact (Kd.R_reads' HO174.out).2.2 | (with_reducible refine Kd.C_alloc ?_ _) | (with_reducible refine Kd.C_drewN ?_ _) | (with_reducible refine Kd.C_drew ?_)))
                    (case side8 => exact (Kd.R_reads' HO174.out).2.1)
                    rintro e w70 ⟨rfl, hb⟩
                    refine ⟨_, rfl, ?_⟩
                    have n0_ := M.roB HO170 hb
                    have n1_ := M.roB HO174 hb
                    have n2_ := M.roB HO185 hb
                    have n3_ := M.roB HO189 hb
                    have n4_ := M.roB HO192 hb
                    have n5_ := M.bkB zae hb
                    have n6_ := M.bkB zaY hb
                    have n7_ := M.bkB zbi hb
                    have n8_ := M.upS HB hb
                    clear HO170 HO174 HO185 HO189 HO192 zae zaY zbi HB
                    have HO170 := n0_
                    have HO174 := n1_
                    have HO185 := n2_
                    have HO189 := n3_
                    have HO192 := n4_
                    have zae := n5_
                    have zaY := n6_
                    have zbi := n7_
                    have HB := n8_
                    clear n0_ n1_ n2_ n3_ n4_ n5_ n6_ n7_ n8_
                    (try clear hb)
                    (try clear hb2)
                    (try clear hk)
                    (try clear hi)
                    refine hK.out _ _ ⟨(blk_cell zae.out 0).trans rfl, (blk_cell zae.out 1).trans rfl, (blk_cell zae.out 2).trans rfl, (blk_cell zaY.out 0).trans rfl, (blk_cell zaY.out 1).trans rfl, (blk_cell zaY.out 2).trans rfl, (blk_cell zbi.out 0).trans rfl, (blk_cell zbi.out 1).trans rfl, (blk_cell zbi.out 2).trans rfl⟩ (fun hHeld => ?_)
                    clear hK K
                    refine norm_ (a' := ?_) ?_ ?_
                    rotate_left
                    · show Act.put _ (some 90) _ = _
                      simp only [Act.put, List.setIfInBounds_toArray, List.set_cons_zero, List.set_cons_succ, i64_w, i32_w]
                      rfl
                    refine pure_ (i := 34) (N := some 91) (v := ?_) (a' := ?_) (M.tf [35, 4]) rfl rfl (any_of HT_.out (by kernel_rfl)) (fun _ _ _ h => h) (Or.inl ⟨by rfl, ?_⟩) ?_ ?_
                    rotate_left
                    · intro w'
                      go_simp
                      with_reducible rfl
                    rotate_left
                    · simp only [Act.put, List.setIfInBounds_toArray, List.set_cons_zero, List.set_cons_succ, i64_w, i32_w]
                      rfl
                    refine pure_ (i := 35) (N := some 92) (v := ?_) (a' := ?_) (M.tf [36, 3]) rfl rfl (any_of HT_.out (by kernel_rfl)) (fun _ _ _ h => h) (Or.inl ⟨by rfl, ?_⟩) ?_ ?_
                    rotate_left
                    · intro w'
                      go_simp
                      with_reducible rfl
                    rotate_left
                    · simp only [Act.put, List.setIfInBounds_toArray, List.set_cons_zero, List.set_cons_succ, i64_w, i32_w]
                      rfl
                    refine one_ (i := 36) (N := some 93) (M.tf [37, 2]) rfl rfl (one_of HT_.out (by kernel_rfl)) (by decide) (fun K hK => ?_)
                    refine goes_ Try.func7 (by kernel_rfl) rfl #[] (by rfl) rfl rfl (by (try simp only [List.map_toArray, List.map_cons, List.map_nil]); first | done | rfl | (simp only [List.length_drop, List.length_take]; rfl)) ?_
                    with_reducible refine (pleachlaw19_awake.calls  t194 _ A39.out).mono ?_
                    rintro e w71 ⟨rfl, hb⟩
                    refine ⟨_, rfl, ?_⟩
                    have n0_ := M.roB HO170 hb
                    have n1_ := M.roB HO174 hb
                    have n2_ := M.roB HO185 hb
                    have n3_ := M.roB HO189 hb
                    have n4_ := M.roB HO192 hb
                    have n5_ := M.bkB zae hb
                    have n6_ := M.bkB zaY hb
                    have n7_ := M.bkB zbi hb
                    have n8_ := M.upS HB hb
                    clear HO170 HO174 HO185 HO189 HO192 zae zaY zbi HB
                    have HO170 := n0_
                    have HO174 := n1_
                    have HO185 := n2_
                    have HO189 := n3_
                    have HO192 := n4_
                    have zae := n5_
                    have zaY := n6_
                    have zbi := n7_
                    have HB := n8_
                    clear n0_ n1_ n2_ n3_ n4_ n5_ n6_ n7_ n8_
                    (try clear hb)
                    (try clear hb2)
                    (try clear hk)
                    (try clear hi)
                    refine hK.out _ _ ⟨(blk_cell zae.out 0).trans rfl, (blk_cell zae.out 1).trans rfl, (blk_cell zae.out 2).trans rfl, (blk_cell zaY.out 0).trans rfl, (blk_cell zaY.out 1).trans rfl, (blk_cell zaY.out 2).trans rfl, (blk_cell zbi.out 0).trans rfl, (blk_cell zbi.out 1).trans rfl, (blk_cell zbi.out 2).trans rfl⟩ (fun hHeld => ?_)
                    clear hK K
                    refine norm_ (a' := ?_) ?_ ?_
                    rotate_left
                    · show Act.put _ (some 93) _ = _
                      simp only [Act.put, List.setIfInBounds_toArray, List.set_cons_zero, List.set_cons_succ, i64_w, i32_w]
                      rfl
                    refine pure_ (i := 37) (N := some 94) (v := ?_) (a' := ?_) (M.tf [38, 1]) rfl rfl (any_of HT_.out (by kernel_rfl)) (fun _ _ _ h => h) (Or.inl ⟨by rfl, ?_⟩) ?_ ?_
                    rotate_left
                    · intro w'
                      go_simp
                      with_reducible rfl
                    rotate_left
                    · simp only [Act.put, List.setIfInBounds_toArray, List.set_cons_zero, List.set_cons_succ, i64_w, i32_w]
                      rfl
                    refine pure_ (i := 38) (N := some 8) (v := ?_) (a' := ?_) (M.tf [39]) rfl rfl (any_of HT_.out (by kernel_rfl)) (fun _ _ _ h => h) (Or.inl ⟨by rfl, ?_⟩) ?_ ?_
                    rotate_left
                    · intro w'
                      go_simp
                      with_reducible rfl
                    rotate_left
                    · simp only [Act.put, List.setIfInBounds_toArray, List.set_cons_zero, List.set_cons_succ, i64_w, i32_w]
                      rfl
                    refine done_ (done_of HT_.out (by kernel_rfl)) ?_
                    try go_wp2
                    go_ret
                    exact M.fin (M.up HB)
                  · replace c38 := Bool.eq_false_iff.mpr c38
                    subst c38
                    have H1 : (some false) = some r := by rw [if_neg (show ¬ (false = true) by decide)] at H; exact H
                    clear H
                    have H := H1
                    clear H1
                    obtain rfl := Option.some.inj H
                    obtain ⟨zbz, zbA, zbB⟩ := M.bc3 (w := wr) (a := .int .i64 a0_0) (b := .slice A0_1 l0_1.length c0_1) (c := .slice A0_2 l0_2.length c0_2) zae.out
                    obtain ⟨zbC, zbD, zbE⟩ := M.bf3 zae
                    try go_wp2_with (first | ((with_reducible refine gate_callee (f := 8) rfl ?_); refine M.goes (some 44) Try.func8 #[.agg #[.int .i64 a0_0, .slice A0_1 l0_1.length c0_1, .slice A0_2 l0_2.length c0_2]] rfl ?_; (with_reducible refine (pleachref19_Total.calls k1 a0_0 _ _ l0_1 _ _ l0_2 t166 _ ?side1 ?side2 ?side3 ?side4 A25.out).mono ?_); (case side1 => exact M.cB HR0_1 HB); (case side2 => exact HC0_1.out); (case side3 => exact M.cB HR0_2 HB); (case side4 => exact HC0_2.out); rintro e w73 ⟨rfl, hb⟩; refine ⟨_, rfl, ?_⟩; have n0_ := M.bkB zae hb; have n1_ := M.upS HB hb; clear zae HB; have zae := n0_; have HB := n1_; clear n0_ n1_; (try clear hb)) | ((with_reducible refine gate_dst (N := 13) rfl ?_); (try (refine gate_guard (by rfl) ?_; dsimp only)); refine box_event ?hg (N := 13) ?hd (cs := #[.string (⟨#[]⟩ : ByteArray), .string (⟨#[]⟩ : ByteArray), .int .i64 0]) (t := 32) ?hr ?_; (case hd => rfl); (case hg => rfl); (case hr => first | (go_simp; done) | (go_simp; rfl)); intro zaX hg w74 hbox hb; have n0_ := M.bkB zae hb; have n1_ := M.upS HB hb; have n2_ := Aside0.mk (hbox); have n3_ := M.upG HB hg; have n4_ := M.upG HB hg; have n5_ := M.bkL zae hg; have n6_ := M.bkG zae hg; clear zae HB; have zae := n0_; have HB := n1_; have zaY := n2_; have zaZ := n3_; have za0 := n4_; have za1 := n5_; have za2 := n6_; clear n0_ n1_ n2_ n3_ n4_ n5_ n6_; clear hb hbox hg; have zbF := za2.out; have zbG := za1.out; obtain ⟨zbH, zbI, zbJ⟩ := M.bc3 (w := w74) (a := .string (⟨#[]⟩ : ByteArray)) (b := .string (⟨#[]⟩ : ByteArray)) (c := .int .i64 0) zaY.out; obtain ⟨zbK, zbL, zbM⟩ := M.bf3 zaY) | ((with_reducible refine gate_dst (N := 52) rfl ?_); (try (refine gate_guard (by rfl) ?_; dsimp only)); refine Kd.R_lit k29 _ 29 ?hg (N := 52) ?hd (xs := ([(⟨x10_1, a2⟩ : S29), (⟨a1, (⟨#[120]⟩ : ByteArray)⟩ : S29)] : List (S29))) (inner := [.string x10_1, .string a2, .string a1, .string (⟨#[120]⟩ : ByteArray)]) (ok := fun _ => True) (okp := fun _ => True) ?hr ?hp (fun _ hk => hk) trivial (Below.refl _ _) (Nat.le_refl _) (by simp) ?_; (case hd => rfl); (case hg => rfl); (case hr => first | (go_simp; done) | (go_simp; rfl)); (case hp => exact (Reps.c2 (show Kd.M k29 _ _ _ (⟨x10_1, a2⟩ : S29) [.string x10_1, .string a2] from (k29_mkM _ _ _ (⟨x10_1, a2⟩ : S29) )) (Reps.c2 (show Kd.M k29 _ _ _ (⟨a1, (⟨#[120]⟩ : ByteArray)⟩ : S29) [.string a1, .string (⟨#[120]⟩ : ByteArray)] from (k29_mkM _ _ _ (⟨a1, (⟨#[120]⟩ : ByteArray)⟩ : S29) )) (Reps.none _ _)))); intro v169 w77 ho78 hb hg_ hnew_; clear hg_ hnew_; (first | rw [← Ny168.out] at ho78 | (simp only [Int.reduceToNat] at ho78; rw [← Ny168.out] at ho78)); have n0_ := Aside0.mk (Kd.R_lower ho78 (below_size (M.up HB))); have n1_ := Aside0.mk (blk_below (g := zad) (o := .cells #[.int .i64 a0_0, .slice A0_1 l0_1.length c0_1, .slice A0_2 l0_2.length c0_2] 25 (0, 0)) (by (with_reducible repeat (first | refine blk_drewN ?_ _ | refine blk_drew ?_ | refine blk_alloc ?_ _)); refine blk_far ?_ za1.out _; (with_reducible repeat (first | refine blk_drewN ?_ _ | refine blk_drew ?_ | refine blk_alloc ?_ _)); refine blk_far ?_ za1.out _; (with_reducible repeat (first | refine blk_drewN ?_ _ | refine blk_drew ?_ | refine blk_alloc ?_ _)); refine blk_far ?_ za1.out _; (with_reducible repeat (first | refine blk_drewN ?_ _ | refine blk_drew ?_ | refine blk_alloc ?_ _)); exact zae.out) hb); have n2_ := Aside0.mk (blk_below (g := zaX) (o := .cells #[.string x10_1, .string a2, .int .i64 t166] 32 (0, 0)) (by (with_reducible repeat (first | refine blk_drewN ?_ _ | refine blk_drew ?_ | refine blk_alloc ?_ _)); refine blk_put (cs := #[.string x10_1, .string a2, .int .i64 0]) ?_ 2 _ rfl; (with_reducible repeat (first | refine blk_drewN ?_ _ | refine blk_drew ?_ | refine blk_alloc ?_ _)); refine blk_put (cs := #[.string x10_1, .string (⟨#[]⟩ : ByteArray), .int .i64 0]) ?_ 1 _ rfl; (with_reducible repeat (first | refine blk_drewN ?_ _ | refine blk_drew ?_ | refine blk_alloc ?_ _)); refine blk_put (cs := #[.string (⟨#[]⟩ : ByteArray), .string (⟨#[]⟩ : ByteArray), .int .i64 0]) ?_ 0 _ rfl; (with_reducible repeat (first | refine blk_drewN ?_ _ | refine blk_drew ?_ | refine blk_alloc ?_ _)); exact zaY.out) hb); have n3_ := M.upS HB hb; clear zae zaY HB; have HO170 := n0_; have zae := n1_; have zaY := n2_; have HB := n3_; clear n0_ n1_ n2_ n3_; clear hb ho78; obtain ⟨zbN, zbO, zbP⟩ := M.bc3 (w := w77) (a := .int .i64 a0_0) (b := .slice A0_1 l0_1.length c0_1) (c := .slice A0_2 l0_2.length c0_2) zae.out; obtain ⟨zbQ, zbR, zbS⟩ := M.bf3 zae) | ((with_reducible refine gate_callee (f := 8) rfl ?_); refine M.goes (some 54) Try.func8 #[.agg #[.int .i64 a0_0, .slice A0_1 l0_1.length c0_1, .slice A0_2 l0_2.length c0_2]] rfl ?_; (with_reducible refine (pleachref19_Total.calls k1 a0_0 _ _ l0_1 _ _ l0_2 t171 _ ?side1 ?side2 ?side3 ?side4 A26.out).mono ?_); (case side1 => exact M.cB HR0_1 HB); (case side2 => exact HC0_1.out); (case side3 => exact M.cB HR0_2 HB); (case side4 => exact HC0_2.out); rintro e w80 ⟨rfl, hb⟩; refine ⟨_, rfl, ?_⟩; have n0_ := M.roB HO170 hb; have n1_ := M.bkB zae hb; have n2_ := M.bkB zaY hb; have n3_ := M.upS HB hb; clear HO170 zae zaY HB; have HO170 := n0_; have zae := n1_; have zaY := n2_; have HB := n3_; clear n0_ n1_ n2_ n3_; (try clear hb)) | ((with_reducible refine gate_dst (N := 55) rfl ?_); (try (refine gate_guard (by rfl) ?_; dsimp only)); refine Kd.R_lit (Kd.int .i64) _ 3 ?hg (N := 55) ?hd (xs := ([t171, 3] : List Int)) (inner := [.int .i64 t171, .int .i64 3]) (ok := fun _ => True) (okp := fun _ => True) ?hr ?hp (fun _ hk => hk) trivial (Below.refl _ _) (Nat.le_refl _) (by simp) ?_; (case hd => rfl); (case hg => rfl); (case hr => first | (go_simp; done) | (go_simp; rfl)); (case hp => exact (Reps.one (show Kd.M (Kd.int .i64) _ _ _ t171 [.int .i64 t171] from rfl) (Reps.one (show Kd.M (Kd.int .i64) _ _ _ 3 [.int .i64 3] from rfl) (Reps.none _ _)))); intro v173 w81 ho82 hb hg_ hnew_; clear hg_ hnew_; (first | rw [← Ny172.out] at ho82 | (simp only [Int.reduceToNat] at ho82; rw [← Ny172.out] at ho82)); have n0_ := M.roB HO170 hb; have n1_ := Aside0.mk (Kd.R_lower ho82 (below_size (M.up HB))); have n2_ := M.bkB zae hb; have n3_ := M.bkB zaY hb; have n4_ := M.upS HB hb; clear HO170 zae zaY HB; have HO170 := n0_; have HO174 := n1_; have zae := n2_; have zaY := n3_; have HB := n4_; clear n0_ n1_ n2_ n3_ n4_; clear hb ho82; obtain ⟨Ao83, co83, eo83⟩ := Kd.R_slice HO174.out; subst eo83; obtain ⟨Ao84, co84, eo84⟩ := Kd.R_slice HO170.out; subst eo84) | ((with_reducible refine gate_dst (N := 14) rfl ?_); (try (refine gate_guard (by rfl) ?_; dsimp only)); refine box_event ?hg (N := 14) ?hd (cs := #[.int .i64 0, .slice none 0 0, .slice none 0 0]) (t := 25) ?hr ?_; (case hd => rfl); (case hg => rfl); (case hr => first | (go_simp; done) | (go_simp; rfl)); intro zbh hg w85 hbox hb; have n0_ := M.roB HO170 hb; have n1_ := M.roB HO174 hb; have n2_ := M.bkB zae hb; have n3_ := M.bkB zaY hb; have n4_ := M.upS HB hb; have n5_ := Aside0.mk (hbox); have n6_ := M.upG HB hg; have n7_ := M.upG HB hg; have n8_ := M.bkL zae hg; have n9_ := M.bkG zae hg; have n10_ := M.bkL zaY hg; have n11_ := M.bkG zaY hg; clear HO170 HO174 zae zaY HB; have HO170 := n0_; have HO174 := n1_; have zae := n2_; have zaY := n3_; have HB := n4_; have zbi := n5_; have zbj := n6_; have zbk := n7_; have zbl := n8_; have zbm := n9_; have zbn := n10_; have zbo := n11_; clear n0_ n1_ n2_ n3_ n4_ n5_ n6_ n7_ n8_ n9_ n10_ n11_; clear hb hbox hg; have zbT := zbm.out; have zbU := zbl.out; have zbV := zbo.out; have zbW := zbn.out; obtain ⟨zbX, zbY, zbZ⟩ := M.bc3 (w := w85) (a := .int .i64 0) (b := .slice none 0 0) (c := .slice none 0 0) zbi.out; obtain ⟨zb0, zb1, zb2⟩ := M.bf3 zbi))
                    have n0_ : Aside0 (Kd.R k29 29 (((w85.setCell ⟨zbh, 0, none⟩ (.int .i64 a3)).setCell ⟨zbh, 1, none⟩ (.slice Ao84 y168.length co84)).setCell ⟨zbh, 2, none⟩ (.slice Ao83 y172.length co83)) w.heap.size (fun _ => True) (.slice Ao84 y168.length co84) y168) := ⟨by (with_reducible repeat (first | apply Kd.R_alloc | apply Kd.R_drewN | apply Kd.R_drew)); exact Kd.R_mono (Kd.R_far (p := ⟨zbh, 2, none⟩) (Kd.R_far (p := ⟨zbh, 1, none⟩) (Kd.R_far (p := ⟨zbh, 0, none⟩) (Kd.R_types HO170.out zbi.out (by decide)) (fun _ hk => hk.2) (.int .i64 a3)) (fun _ hk => hk.2) (.slice Ao84 y168.length co84)) (fun _ hk => hk.2) (.slice Ao83 y172.length co83)) (fun _ hk => trivial)⟩
                    have n1_ : Aside0 (Kd.R (Kd.int .i64) 3 (((w85.setCell ⟨zbh, 0, none⟩ (.int .i64 a3)).setCell ⟨zbh, 1, none⟩ (.slice Ao84 y168.length co84)).setCell ⟨zbh, 2, none⟩ (.slice Ao83 y172.length co83)) w.heap.size (fun _ => True) (.slice Ao83 y172.length co83) y172) := ⟨by (with_reducible repeat (first | apply Kd.R_alloc | apply Kd.R_drewN | apply Kd.R_drew)); exact Kd.R_mono (Kd.R_far (p := ⟨zbh, 2, none⟩) (Kd.R_far (p := ⟨zbh, 1, none⟩) (Kd.R_far (p := ⟨zbh, 0, none⟩) (Kd.R_types HO174.out zbi.out (by decide)) (fun _ hk => hk.2) (.int .i64 a3)) (fun _ hk => hk.2) (.slice Ao84 y168.length co84)) (fun _ hk => hk.2) (.slice Ao83 y172.length co83)) (fun _ hk => trivial)⟩
                    have n2_ : Aside0 ((((w85.setCell ⟨zbh, 0, none⟩ (.int .i64 a3)).setCell ⟨zbh, 1, none⟩ (.slice Ao84 y168.length co84)).setCell ⟨zbh, 2, none⟩ (.slice Ao83 y172.length co83)).heap[zad]? = some (.cells #[.int .i64 a0_0, .slice A0_1 l0_1.length c0_1, .slice A0_2 l0_2.length c0_2] 25 (0, 0))) := ⟨by (with_reducible repeat (first | refine blk_drewN ?_ _ | refine blk_drew ?_ | refine blk_alloc ?_ _)); refine blk_far ?_ zbl.out _; (with_reducible repeat (first | refine blk_drewN ?_ _ | refine blk_drew ?_ | refine blk_alloc ?_ _)); refine blk_far ?_ zbl.out _; (with_reducible repeat (first | refine blk_drewN ?_ _ | refine blk_drew ?_ | refine blk_alloc ?_ _)); refine blk_far ?_ zbl.out _; (with_reducible repeat (first | refine blk_drewN ?_ _ | refine blk_drew ?_ | refine blk_alloc ?_ _)); exact zae.out⟩
                    have n3_ : Aside0 ((((w85.setCell ⟨zbh, 0, none⟩ (.int .i64 a3)).setCell ⟨zbh, 1, none⟩ (.slice Ao84 y168.length co84)).setCell ⟨zbh, 2, none⟩ (.slice Ao83 y172.length co83)).heap[zaX]? = some (.cells #[.string x10_1, .string a2, .int .i64 t166] 32 (0, 0))) := ⟨by (with_reducible repeat (first | refine blk_drewN ?_ _ | refine blk_drew ?_ | refine blk_alloc ?_ _)); refine blk_far ?_ zbn.out _; (with_reducible repeat (first | refine blk_drewN ?_ _ | refine blk_drew ?_ | refine blk_alloc ?_ _)); refine blk_far ?_ zbn.out _; (with_reducible repeat (first | refine blk_drewN ?_ _ | refine blk_drew ?_ | refine blk_alloc ?_ _)); refine blk_far ?_ zbn.out _; (with_reducible repeat (first | refine blk_drewN ?_ _ | refine blk_drew ?_ | refine blk_alloc ?_ _)); exact zaY.out⟩
                    have n4_ : Aside0 ((((w85.setCell ⟨zbh, 0, none⟩ (.int .i64 a3)).setCell ⟨zbh, 1, none⟩ (.slice Ao84 y168.length co84)).setCell ⟨zbh, 2, none⟩ (.slice Ao83 y172.length co83)).heap[zbh]? = some (.cells #[.int .i64 a3, .slice Ao84 y168.length co84, .slice Ao83 y172.length co83] 25 (0, 0))) := ⟨by (with_reducible repeat (first | refine blk_drewN ?_ _ | refine blk_drew ?_ | refine blk_alloc ?_ _)); refine blk_put (cs := #[.int .i64 a3, .slice Ao84 y168.length co84, .slice none 0 0]) ?_ 2 _ rfl; (with_reducible repeat (first | refine blk_drewN ?_ _ | refine blk_drew ?_ | refine blk_alloc ?_ _)); refine blk_put (cs := #[.int .i64 a3, .slice none 0 0, .slice none 0 0]) ?_ 1 _ rfl; (with_reducible repeat (first | refine blk_drewN ?_ _ | refine blk_drew ?_ | refine blk_alloc ?_ _)); refine blk_put (cs := #[.int .i64 0, .slice none 0 0, .slice none 0 0]) ?_ 0 _ rfl; (with_reducible repeat (first | refine blk_drewN ?_ _ | refine blk_drew ?_ | refine blk_alloc ?_ _)); exact zbi.out⟩
                    have n5_ : Aside0 (Below w.heap.size w (((w85.setCell ⟨zbh, 0, none⟩ (.int .i64 a3)).setCell ⟨zbh, 1, none⟩ (.slice Ao84 y168.length co84)).setCell ⟨zbh, 2, none⟩ (.slice Ao83 y172.length co83))) := ⟨M.up HB⟩
                    (try clear HO170)
                    (try clear HO174)
                    (try clear zae)
                    (try clear zaY)
                    (try clear zbi)
                    (try clear HB)
                    generalize (((w85.setCell ⟨zbh, 0, none⟩ (.int .i64 a3)).setCell ⟨zbh, 1, none⟩ (.slice Ao84 y168.length co84)).setCell ⟨zbh, 2, none⟩ (.slice Ao83 y172.length co83)) = w89 at n0_ n1_ n2_ n3_ n4_ n5_ ⊢
                    have HO170 := n0_
                    have HO174 := n1_
                    have zae := n2_
                    have zaY := n3_
                    have zbi := n4_
                    have HB := n5_
                    clear n0_ n1_ n2_ n3_ n4_ n5_
                    have n0_ := Aside0.mk (Kd.R_drew HO170.out)
                    have n1_ := Aside0.mk (Kd.R_drew HO174.out)
                    have n2_ := Aside0.mk (blk_drew zae.out)
                    have n3_ := Aside0.mk (blk_drew zaY.out)
                    have n4_ := Aside0.mk (blk_drew zbi.out)
                    have n5_ := Aside0.mk (below_drew1 HB.out)
                    clear HO170 HO174 zae zaY zbi HB
                    have HO170 := n0_
                    have HO174 := n1_
                    have zae := n2_
                    have zaY := n3_
                    have zbi := n4_
                    have HB := n5_
                    clear n0_ n1_ n2_ n3_ n4_ n5_
                    refine start_ (n := 39) (S := fun w' => w'.cell? ⟨zad, 0, none⟩ = some (.int .i64 a0_0) ∧ w'.cell? ⟨zad, 1, none⟩ = some (.slice A0_1 l0_1.length c0_1) ∧ w'.cell? ⟨zad, 2, none⟩ = some (.slice A0_2 l0_2.length c0_2) ∧ w'.cell? ⟨zaX, 0, none⟩ = some (.string x10_1) ∧ w'.cell? ⟨zaX, 1, none⟩ = some (.string a2) ∧ w'.cell? ⟨zaX, 2, none⟩ = some (.int .i64 t166) ∧ w'.cell? ⟨zbh, 0, none⟩ = some (.int .i64 a3) ∧ w'.cell? ⟨zbh, 1, none⟩ = some (.slice Ao84 y168.length co84) ∧ w'.cell? ⟨zbh, 2, none⟩ = some (.slice Ao83 y172.length co83)) (ds := []) (M.tf [0, 39]) (by kernel_rfl) rfl rfl ⟨(blk_cell zae.out 0).trans rfl, (blk_cell zae.out 1).trans rfl, (blk_cell zae.out 2).trans rfl, (blk_cell zaY.out 0).trans rfl, (blk_cell zaY.out 1).trans rfl, (blk_cell zaY.out 2).trans rfl, (blk_cell zbi.out 0).trans rfl, (blk_cell zbi.out 1).trans rfl, (blk_cell zbi.out 2).trans rfl⟩ (fun hHeld => ?_); refine with_tabW pleachlaw19_ChunkTells.tab13 pleachlaw19_ChunkTells.bits13 (fun HT_ HW_ => ?_)
                    generalize w89.drew = w90 at HO170 HO174 zae zaY zbi HB hHeld ⊢
                    refine take_ (i := 0) (N := some 57) (v := ?_) (a' := ?_) (M.tf [1, 38]) rfl rfl (take_ofW HT_.out HW_.out (by kernel_rfl)) (fun _ _ _ h => h) (Or.inl ⟨by rfl, ?_⟩) hHeld ?_ ?_
                    rotate_left
                    · rintro w' ⟨s0, s1, s2, s3, s4, s5, s6, s7, s8⟩
                      go_simp
                      with_reducible rfl
                    rotate_left
                    · simp only [Act.put, List.setIfInBounds_toArray, List.set_cons_zero, List.set_cons_succ, i64_w, i32_w]
                      rfl
                    refine take_ (i := 2) (N := some 59) (v := ?_) (a' := ?_) (M.tf [1, 1, 1, 36]) rfl rfl (take_ofW HT_.out HW_.out (by kernel_rfl)) (fun _ _ _ h => h) (Or.inl ⟨by rfl, ?_⟩) hHeld ?_ ?_
                    rotate_left
                    · rintro w' ⟨s0, s1, s2, s3, s4, s5, s6, s7, s8⟩
                      go_simp
                      with_reducible rfl
                    rotate_left
                    · simp only [Act.put, List.setIfInBounds_toArray, List.set_cons_zero, List.set_cons_succ, i64_w, i32_w]
                      rfl
                    refine one_ (i := 1) (N := some 58) (M.tf [3, 36]) rfl rfl (one_of HT_.out (by kernel_rfl)) (by decide) (fun K hK => ?_)
                    refine goes_ Try.func9 (by kernel_rfl) rfl #[.agg #[.int .i64 a0_0, .slice A0_1 l0_1.length c0_1, .slice A0_2 l0_2.length c0_2]] (by rfl) rfl rfl (by (try simp only [List.map_toArray, List.map_cons, List.map_nil]); first | done | rfl | (simp only [List.length_drop, List.length_take]; rfl)) ?_
                    with_reducible refine (chunk_Total.calls k1 a0_0 _ _ l0_1 _ _ l0_2 t176 _ ?side1 ?side2 ?side3 ?side4 A27.out).mono ?_
                    (case side1 => exact M.cB HR0_1 HB)
                    (case side2 => exact HC0_1.out)
                    (case side3 => exact M.cB HR0_2 HB)
                    (case side4 => exact HC0_2.out)
                    rintro e w91 ⟨rfl, hb⟩
                    refine ⟨_, rfl, ?_⟩
                    have n0_ := M.roB HO170 hb
                    have n1_ := M.roB HO174 hb
                    have n2_ := M.bkB zae hb
                    have n3_ := M.bkB zaY hb
                    have n4_ := M.bkB zbi hb
                    have n5_ := M.upS HB hb
                    clear HO170 HO174 zae zaY zbi HB
                    have HO170 := n0_
                    have HO174 := n1_
                    have zae := n2_
                    have zaY := n3_
                    have zbi := n4_
                    have HB := n5_
                    clear n0_ n1_ n2_ n3_ n4_ n5_
                    (try clear hb)
                    (try clear hb2)
                    (try clear hk)
                    (try clear hi)
                    refine hK.out _ _ ⟨(blk_cell zae.out 0).trans rfl, (blk_cell zae.out 1).trans rfl, (blk_cell zae.out 2).trans rfl, (blk_cell zaY.out 0).trans rfl, (blk_cell zaY.out 1).trans rfl, (blk_cell zaY.out 2).trans rfl, (blk_cell zbi.out 0).trans rfl, (blk_cell zbi.out 1).trans rfl, (blk_cell zbi.out 2).trans rfl⟩ (fun hHeld => ?_)
                    clear hK K
                    refine norm_ (a' := ?_) ?_ ?_
                    rotate_left
                    · show Act.put _ (some 58) _ = _
                      simp only [Act.put, List.setIfInBounds_toArray, List.set_cons_zero, List.set_cons_succ, i64_w, i32_w]
                      rfl
                    refine one_ (i := 3) (N := some 60) (M.tf [4, 35]) rfl rfl (one_of HT_.out (by kernel_rfl)) (by decide) (fun K hK => ?_)
                    refine goes_ Try.func8 (by kernel_rfl) rfl #[.agg #[.int .i64 a0_0, .slice A0_1 l0_1.length c0_1, .slice A0_2 l0_2.length c0_2]] (by rfl) rfl rfl (by (try simp only [List.map_toArray, List.map_cons, List.map_nil]); first | done | rfl | (simp only [List.length_drop, List.length_take]; rfl)) ?_
                    with_reducible refine (pleachref19_Total.calls k1 a0_0 _ _ l0_1 _ _ l0_2 t177 _ ?side1 ?side2 ?side3 ?side4 A28.out).mono ?_
                    (case side1 => exact M.cB HR0_1 HB)
                    (case side2 => exact HC0_1.out)
                    (case side3 => exact M.cB HR0_2 HB)
                    (case side4 => exact HC0_2.out)
                    rintro e w92 ⟨rfl, hb⟩
                    refine ⟨_, rfl, ?_⟩
                    have n0_ := M.roB HO170 hb
                    have n1_ := M.roB HO174 hb
                    have n2_ := M.bkB zae hb
                    have n3_ := M.bkB zaY hb
                    have n4_ := M.bkB zbi hb
                    have n5_ := M.upS HB hb
                    clear HO170 HO174 zae zaY zbi HB
                    have HO170 := n0_
                    have HO174 := n1_
                    have zae := n2_
                    have zaY := n3_
                    have zbi := n4_
                    have HB := n5_
                    clear n0_ n1_ n2_ n3_ n4_ n5_
                    (try clear hb)
                    (try clear hb2)
                    (try clear hk)
                    (try clear hi)
                    refine hK.out _ _ ⟨(blk_cell zae.out 0).trans rfl, (blk_cell zae.out 1).trans rfl, (blk_cell zae.out 2).trans rfl, (blk_cell zaY.out 0).trans rfl, (blk_cell zaY.out 1).trans rfl, (blk_cell zaY.out 2).trans rfl, (blk_cell zbi.out 0).trans rfl, (blk_cell zbi.out 1).trans rfl, (blk_cell zbi.out 2).trans rfl⟩ (fun hHeld => ?_)
                    clear hK K
                    refine norm_ (a' := ?_) ?_ ?_
                    rotate_left
                    · show Act.put _ (some 60) _ = _
                      simp only [Act.put, List.setIfInBounds_toArray, List.set_cons_zero, List.set_cons_succ, i64_w, i32_w]
                      rfl
                    refine pure_ (i := 4) (N := some 61) (v := ?_) (a' := ?_) (M.tf [5, 34]) rfl rfl (any_of HT_.out (by kernel_rfl)) (fun _ _ _ h => h) (Or.inl ⟨by rfl, ?_⟩) ?_ ?_
                    rotate_left
                    · intro w'
                      go_simp
                      with_reducible rfl
                    rotate_left
                    · simp only [Act.put, List.setIfInBounds_toArray, List.set_cons_zero, List.set_cons_succ, i64_w, i32_w]
                      rfl
                    refine pure_ (i := 5) (N := some 62) (v := ?_) (a' := ?_) (M.tf [6, 33]) rfl rfl (any_of HT_.out (by kernel_rfl)) (fun _ _ _ h => h) (Or.inl ⟨by rfl, ?_⟩) ?_ ?_
                    rotate_left
                    · intro w'
                      go_simp
                      with_reducible rfl
                    rotate_left
                    · simp only [Act.put, List.setIfInBounds_toArray, List.set_cons_zero, List.set_cons_succ, i64_w, i32_w]
                      rfl
                    refine pure_ (i := 8) (N := some 65) (v := ?_) (a' := ?_) (M.tf [6, 2, 1, 30]) rfl rfl (any_of HT_.out (by kernel_rfl)) (fun _ _ _ h => h) (Or.inl ⟨by rfl, ?_⟩) ?_ ?_
                    rotate_left
                    · intro w'
                      go_simp
                      with_reducible rfl
                    rotate_left
                    · simp only [Act.put, List.setIfInBounds_toArray, List.set_cons_zero, List.set_cons_succ, i64_w, i32_w]
                      rfl
                    refine take_ (i := 6) (N := some 63) (v := ?_) (a' := ?_) (M.tf [7, 1, 1, 30]) rfl rfl (take_ofW HT_.out HW_.out (by kernel_rfl)) (fun _ _ _ h => h) (Or.inl ⟨by rfl, ?_⟩) hHeld ?_ ?_
                    rotate_left
                    · rintro w' ⟨s0, s1, s2, s3, s4, s5, s6, s7, s8⟩
                      go_simp
                      with_reducible rfl
                    rotate_left
                    · simp only [Act.put, List.setIfInBounds_toArray, List.set_cons_zero, List.set_cons_succ, i64_w, i32_w]
                      rfl
                    refine one_ (i := 7) (N := some 64) (M.tf [9, 30]) rfl rfl (one_of HT_.out (by kernel_rfl)) (by decide) (fun K hK => ?_)
                    refine goes_ Try.func10 (by kernel_rfl) rfl #[.agg #[.int .i64 a0_0, .slice A0_1 l0_1.length c0_1, .slice A0_2 l0_2.length c0_2]] (by rfl) rfl rfl (by (try simp only [List.map_toArray, List.map_cons, List.map_nil]); first | done | rfl | (simp only [List.length_drop, List.length_take]; rfl)) ?_
                    with_reducible refine (chunk_Last.calls a0_0 _ _ l0_1 _ _ l0_2 t178 _ ?side1 ?side2 ?side3 ?side4 A30.out).mono ?_
                    (case side1 => exact M.cB HR0_1 HB)
                    (case side2 => exact HC0_1.out)
                    (case side3 => exact M.cB HR0_2 HB)
                    (case side4 => exact HC0_2.out)
                    rintro e w93 ⟨rfl, hb⟩
                    refine ⟨_, rfl, ?_⟩
                    have n0_ := M.roB HO170 hb
                    have n1_ := M.roB HO174 hb
                    have n2_ := M.bkB zae hb
                    have n3_ := M.bkB zaY hb
                    have n4_ := M.bkB zbi hb
                    have n5_ := M.upS HB hb
                    clear HO170 HO174 zae zaY zbi HB
                    have HO170 := n0_
                    have HO174 := n1_
                    have zae := n2_
                    have zaY := n3_
                    have zbi := n4_
                    have HB := n5_
                    clear n0_ n1_ n2_ n3_ n4_ n5_
                    (try clear hb)
                    (try clear hb2)
                    (try clear hk)
                    (try clear hi)
                    refine hK.out _ _ ⟨(blk_cell zae.out 0).trans rfl, (blk_cell zae.out 1).trans rfl, (blk_cell zae.out 2).trans rfl, (blk_cell zaY.out 0).trans rfl, (blk_cell zaY.out 1).trans rfl, (blk_cell zaY.out 2).trans rfl, (blk_cell zbi.out 0).trans rfl, (blk_cell zbi.out 1).trans rfl, (blk_cell zbi.out 2).trans rfl⟩ (fun hHeld => ?_)
                    clear hK K
                    refine norm_ (a' := ?_) ?_ ?_
                    rotate_left
                    · show Act.put _ (some 64) _ = _
                      simp only [Act.put, List.setIfInBounds_toArray, List.set_cons_zero, List.set_cons_succ, i64_w, i32_w]
                      rfl
                    refine pure_ (i := 9) (N := some 66) (v := ?_) (a' := ?_) (M.tf [10, 29]) rfl rfl (any_of HT_.out (by kernel_rfl)) (fun _ _ _ h => h) (Or.inl ⟨by rfl, ?_⟩) ?_ ?_
                    rotate_left
                    · intro w'
                      go_simp
                      with_reducible rfl
                    rotate_left
                    · simp only [Act.put, List.setIfInBounds_toArray, List.set_cons_zero, List.set_cons_succ, i64_w, i32_w]
                      rfl
                    refine pure_ (i := 10) (N := some 67) (v := ?_) (a' := ?_) (M.tf [11, 28]) rfl rfl (any_of HT_.out (by kernel_rfl)) (fun _ _ _ h => h) (Or.inl ⟨by rfl, ?_⟩) ?_ ?_
                    rotate_left
                    · intro w'
                      go_simp
                      with_reducible rfl
                    rotate_left
                    · simp only [Act.put, List.setIfInBounds_toArray, List.set_cons_zero, List.set_cons_succ, i64_w, i32_w]
                      rfl
                    refine pure_ (i := 11) (N := some 68) (v := ?_) (a' := ?_) (M.tf [12, 27]) rfl rfl (any_of HT_.out (by kernel_rfl)) (fun _ _ _ h => h) (Or.inl ⟨by rfl, ?_⟩) ?_ ?_
                    rotate_left
                    · intro w'
                      go_simp
                      with_reducible rfl
                    rotate_left
                    · simp only [Act.put, List.setIfInBounds_toArray, List.set_cons_zero, List.set_cons_succ, i64_w, i32_w]
                      rfl
                    refine pure_ (i := 13) (N := some 70) (v := ?_) (a' := ?_) (M.tf [12, 1, 1, 25]) rfl rfl (any_of HT_.out (by kernel_rfl)) (fun _ _ _ h => h) (Or.inl ⟨by rfl, ?_⟩) ?_ ?_
                    rotate_left
                    · intro w'
                      go_simp
                      with_reducible rfl
                    rotate_left
                    · simp only [Act.put, List.setIfInBounds_toArray, List.set_cons_zero, List.set_cons_succ, i64_w, i32_w]
                      rfl
                    refine pure_ (i := 15) (N := some 72) (v := ?_) (a' := ?_) (M.tf [12, 1, 1, 1, 1, 23]) rfl rfl (any_of HT_.out (by kernel_rfl)) (fun _ _ _ h => h) (Or.inl ⟨by rfl, ?_⟩) ?_ ?_
                    rotate_left
                    · intro w'
                      go_simp
                      with_reducible rfl
                    rotate_left
                    · simp only [Act.put, List.setIfInBounds_toArray, List.set_cons_zero, List.set_cons_succ, i64_w, i32_w]
                      rfl
                    refine take_ (i := 12) (N := some 69) (v := ?_) (a' := ?_) (M.tf [14, 1, 1, 23]) rfl rfl (take_ofW HT_.out HW_.out (by kernel_rfl)) (fun _ _ _ h => h) (Or.inl ⟨by rfl, ?_⟩) hHeld ?_ ?_
                    rotate_left
                    · rintro w' ⟨s0, s1, s2, s3, s4, s5, s6, s7, s8⟩
                      go_simp
                      with_reducible rfl
                    rotate_left
                    · simp only [Act.put, List.setIfInBounds_toArray, List.set_cons_zero, List.set_cons_succ, i64_w, i32_w]
                      rfl
                    refine one_ (i := 14) (N := some 71) (M.tf [16, 23]) rfl rfl (one_of HT_.out (by kernel_rfl)) (by decide) (fun K hK => ?_)
                    refine goes_ Try.func11 (by kernel_rfl) rfl #[.agg #[.int .i64 a0_0, .slice A0_1 l0_1.length c0_1, .slice A0_2 l0_2.length c0_2], .string a1] (by rfl) rfl rfl (by (try simp only [List.map_toArray, List.map_cons, List.map_nil]); first | done | rfl | (simp only [List.length_drop, List.length_take]; rfl)) ?_
                    with_reducible refine (chunk_Find.calls k1 a0_0 _ _ l0_1 _ _ l0_2 a1 t179 _ ?side1 ?side2 ?side3 ?side4 A32.out).mono ?_
                    (case side1 => exact M.cB HR0_1 HB)
                    (case side2 => exact HC0_1.out)
                    (case side3 => exact M.cB HR0_2 HB)
                    (case side4 => exact HC0_2.out)
                    rintro e w94 ⟨rfl, hb⟩
                    refine ⟨_, rfl, ?_⟩
                    have n0_ := M.roB HO170 hb
                    have n1_ := M.roB HO174 hb
                    have n2_ := M.bkB zae hb
                    have n3_ := M.bkB zaY hb
                    have n4_ := M.bkB zbi hb
                    have n5_ := M.upS HB hb
                    clear HO170 HO174 zae zaY zbi HB
                    have HO170 := n0_
                    have HO174 := n1_
                    have zae := n2_
                    have zaY := n3_
                    have zbi := n4_
                    have HB := n5_
                    clear n0_ n1_ n2_ n3_ n4_ n5_
                    (try clear hb)
                    (try clear hb2)
                    (try clear hk)
                    (try clear hi)
                    refine hK.out _ _ ⟨(blk_cell zae.out 0).trans rfl, (blk_cell zae.out 1).trans rfl, (blk_cell zae.out 2).trans rfl, (blk_cell zaY.out 0).trans rfl, (blk_cell zaY.out 1).trans rfl, (blk_cell zaY.out 2).trans rfl, (blk_cell zbi.out 0).trans rfl, (blk_cell zbi.out 1).trans rfl, (blk_cell zbi.out 2).trans rfl⟩ (fun hHeld => ?_)
                    clear hK K
                    refine norm_ (a' := ?_) ?_ ?_
                    rotate_left
                    · show Act.put _ (some 71) _ = _
                      simp only [Act.put, List.setIfInBounds_toArray, List.set_cons_zero, List.set_cons_succ, i64_w, i32_w]
                      rfl
                    refine pure_ (i := 16) (N := some 73) (v := ?_) (a' := ?_) (M.tf [17, 22]) rfl rfl (any_of HT_.out (by kernel_rfl)) (fun _ _ _ h => h) (Or.inl ⟨by rfl, ?_⟩) ?_ ?_
                    rotate_left
                    · intro w'
                      go_simp
                      with_reducible rfl
                    rotate_left
                    · simp only [Act.put, List.setIfInBounds_toArray, List.set_cons_zero, List.set_cons_succ, i64_w, i32_w]
                      rfl
                    refine pure_ (i := 17) (N := some 74) (v := ?_) (a' := ?_) (M.tf [18, 21]) rfl rfl (any_of HT_.out (by kernel_rfl)) (fun _ _ _ h => h) (Or.inl ⟨by rfl, ?_⟩) ?_ ?_
                    rotate_left
                    · intro w'
                      go_simp
                      with_reducible rfl
                    rotate_left
                    · simp only [Act.put, List.setIfInBounds_toArray, List.set_cons_zero, List.set_cons_succ, i64_w, i32_w]
                      rfl
                    refine pure_ (i := 18) (N := some 75) (v := ?_) (a' := ?_) (M.tf [19, 20]) rfl rfl (any_of HT_.out (by kernel_rfl)) (fun _ _ _ h => h) (Or.inl ⟨by rfl, ?_⟩) ?_ ?_
                    rotate_left
                    · intro w'
                      go_simp
                      with_reducible rfl
                    rotate_left
                    · simp only [Act.put, List.setIfInBounds_toArray, List.set_cons_zero, List.set_cons_succ, i64_w, i32_w]
                      rfl
                    refine pure_ (i := 20) (N := some 77) (v := ?_) (a' := ?_) (M.tf [19, 1, 1, 18]) rfl rfl (any_of HT_.out (by kernel_rfl)) (fun _ _ _ h => h) (Or.inl ⟨by rfl, ?_⟩) ?_ ?_
                    rotate_left
                    · intro w'
                      go_simp
                      with_reducible rfl
                    rotate_left
                    · simp only [Act.put, List.setIfInBounds_toArray, List.set_cons_zero, List.set_cons_succ, i64_w, i32_w]
                      rfl
                    refine take_ (i := 19) (N := some 76) (v := ?_) (a' := ?_) (M.tf [21, 18]) rfl rfl (take_ofW HT_.out HW_.out (by kernel_rfl)) (fun _ _ _ h => h) (Or.inl ⟨by rfl, ?_⟩) hHeld ?_ ?_
                    rotate_left
                    · rintro w' ⟨s0, s1, s2, s3, s4, s5, s6, s7, s8⟩
                      go_simp
                      with_reducible rfl
                    rotate_left
                    · simp only [Act.put, List.setIfInBounds_toArray, List.set_cons_zero, List.set_cons_succ, i64_w, i32_w]
                      rfl
                    refine take_ (i := 22) (N := some 79) (v := ?_) (a' := ?_) (M.tf [21, 1, 1, 16]) rfl rfl (take_ofW HT_.out HW_.out (by kernel_rfl)) (fun _ _ _ h => h) (Or.inl ⟨by rfl, ?_⟩) hHeld ?_ ?_
                    rotate_left
                    · rintro w' ⟨s0, s1, s2, s3, s4, s5, s6, s7, s8⟩
                      go_simp
                      with_reducible rfl
                    rotate_left
                    · simp only [Act.put, List.setIfInBounds_toArray, List.set_cons_zero, List.set_cons_succ, i64_w, i32_w]
                      rfl
                    refine one_ (i := 21) (N := some 78) (M.tf [23, 16]) rfl rfl (one_of HT_.out (by kernel_rfl)) (by decide) (fun K hK => ?_)
                    refine goes_ Try.func12 (by kernel_rfl) rfl #[.agg #[.int .i64 a0_0, .slice A0_1 l0_1.length c0_1, .slice A0_2 l0_2.length c0_2], .string a2] (by rfl) rfl rfl (by (try simp only [List.map_toArray, List.map_cons, List.map_nil]); first | done | rfl | (simp only [List.length_drop, List.length_take]; rfl)) ?_
                    with_reducible refine (chunk_Twig.calls k1 a0_0 _ _ l0_1 _ _ l0_2 a2 t180 t181 t182 _ ?side1 ?side2 ?side3 ?side4 A34.out).mono ?_
                    (case side1 => exact M.cB HR0_1 HB)
                    (case side2 => exact HC0_1.out)
                    (case side3 => exact M.cB HR0_2 HB)
                    (case side4 => exact HC0_2.out)
                    rintro e w95 ⟨rfl, hb⟩
                    refine ⟨_, rfl, ?_⟩
                    have n0_ := M.roB HO170 hb
                    have n1_ := M.roB HO174 hb
                    have n2_ := M.bkB zae hb
                    have n3_ := M.bkB zaY hb
                    have n4_ := M.bkB zbi hb
                    have n5_ := M.upS HB hb
                    clear HO170 HO174 zae zaY zbi HB
                    have HO170 := n0_
                    have HO174 := n1_
                    have zae := n2_
                    have zaY := n3_
                    have zbi := n4_
                    have HB := n5_
                    clear n0_ n1_ n2_ n3_ n4_ n5_
                    (try clear hb)
                    (try clear hb2)
                    (try clear hk)
                    (try clear hi)
                    refine hK.out _ _ ⟨(blk_cell zae.out 0).trans rfl, (blk_cell zae.out 1).trans rfl, (blk_cell zae.out 2).trans rfl, (blk_cell zaY.out 0).trans rfl, (blk_cell zaY.out 1).trans rfl, (blk_cell zaY.out 2).trans rfl, (blk_cell zbi.out 0).trans rfl, (blk_cell zbi.out 1).trans rfl, (blk_cell zbi.out 2).trans rfl⟩ (fun hHeld => ?_)
                    clear hK K
                    refine norm_ (a' := ?_) ?_ ?_
                    rotate_left
                    · show Act.put _ (some 78) _ = _
                      simp only [Act.put, List.setIfInBounds_toArray, List.set_cons_zero, List.set_cons_succ, i64_w, i32_w]
                      rfl
                    refine pure_ (i := 23) (N := some 80) (v := ?_) (a' := ?_) (M.tf [24, 15]) rfl rfl (any_of HT_.out (by kernel_rfl)) (fun _ _ _ h => h) (Or.inl ⟨by rfl, ?_⟩) ?_ ?_
                    rotate_left
                    · intro w'
                      go_simp
                      with_reducible rfl
                    rotate_left
                    · simp only [Act.put, List.setIfInBounds_toArray, List.set_cons_zero, List.set_cons_succ, i64_w, i32_w]
                      rfl
                    refine pure_ (i := 24) (N := some 81) (v := ?_) (a' := ?_) (M.tf [25, 14]) rfl rfl (any_of HT_.out (by kernel_rfl)) (fun _ _ _ h => h) (Or.inl ⟨by rfl, ?_⟩) ?_ ?_
                    rotate_left
                    · intro w'
                      go_simp
                      with_reducible rfl
                    rotate_left
                    · simp only [Act.put, List.setIfInBounds_toArray, List.set_cons_zero, List.set_cons_succ, i64_w, i32_w]
                      rfl
                    refine pure_ (i := 25) (N := some 82) (v := ?_) (a' := ?_) (M.tf [26, 13]) rfl rfl (any_of HT_.out (by kernel_rfl)) (fun _ _ _ h => h) (Or.inl ⟨by rfl, ?_⟩) ?_ ?_
                    rotate_left
                    · intro w'
                      go_simp
                      with_reducible rfl
                    rotate_left
                    · simp only [Act.put, List.setIfInBounds_toArray, List.set_cons_zero, List.set_cons_succ, i64_w, i32_w]
                      rfl
                    refine pure_ (i := 26) (N := some 83) (v := ?_) (a' := ?_) (M.tf [27, 12]) rfl rfl (any_of HT_.out (by kernel_rfl)) (fun _ _ _ h => h) (Or.inl ⟨by rfl, ?_⟩) ?_ ?_
                    rotate_left
                    · intro w'
                      go_simp
                      with_reducible rfl
                    rotate_left
                    · simp only [Act.put, List.setIfInBounds_toArray, List.set_cons_zero, List.set_cons_succ, i64_w, i32_w]
                      rfl
                    refine pure_ (i := 28) (N := some 85) (v := ?_) (a' := ?_) (M.tf [27, 1, 1, 10]) rfl rfl (any_of HT_.out (by kernel_rfl)) (fun _ _ _ h => h) (Or.inl ⟨by rfl, ?_⟩) ?_ ?_
                    rotate_left
                    · intro w'
                      go_simp
                      with_reducible rfl
                    rotate_left
                    · simp only [Act.put, List.setIfInBounds_toArray, List.set_cons_zero, List.set_cons_succ, i64_w, i32_w]
                      rfl
                    refine pure_ (i := 29) (N := some 86) (v := ?_) (a' := ?_) (M.tf [27, 1, 2, 9]) rfl rfl (any_of HT_.out (by kernel_rfl)) (fun _ _ _ h => h) (Or.inl ⟨by rfl, ?_⟩) ?_ ?_
                    rotate_left
                    · intro w'
                      go_simp
                      with_reducible rfl
                    rotate_left
                    · simp only [Act.put, List.setIfInBounds_toArray, List.set_cons_zero, List.set_cons_succ, i64_w, i32_w]
                      rfl
                    refine take_ (i := 27) (N := some 84) (v := ?_) (a' := ?_) (M.tf [30, 9]) rfl rfl (take_ofW HT_.out HW_.out (by kernel_rfl)) (fun _ _ _ h => h) (Or.inl ⟨by rfl, ?_⟩) hHeld ?_ ?_
                    rotate_left
                    · rintro w' ⟨s0, s1, s2, s3, s4, s5, s6, s7, s8⟩
                      go_simp
                      with_reducible rfl
                    rotate_left
                    · simp only [Act.put, List.setIfInBounds_toArray, List.set_cons_zero, List.set_cons_succ, i64_w, i32_w]
                      rfl
                    refine take_ (i := 32) (N := some 89) (v := ?_) (a' := ?_) (M.tf [30, 2, 1, 6]) rfl rfl (take_ofW HT_.out HW_.out (by kernel_rfl)) (fun _ _ _ h => h) (Or.inl ⟨by rfl, ?_⟩) hHeld ?_ ?_
                    rotate_left
                    · rintro w' ⟨s0, s1, s2, s3, s4, s5, s6, s7, s8⟩
                      go_simp
                      with_reducible rfl
                    rotate_left
                    · simp only [Act.put, List.setIfInBounds_toArray, List.set_cons_zero, List.set_cons_succ, i64_w, i32_w]
                      rfl
                    refine one_ (i := 30) (N := some 87) (M.tf [31, 1, 1, 6]) rfl rfl (one_of HT_.out (by kernel_rfl)) (by decide) (fun K hK => ?_)
                    refine Kd.R_lit_step k32 _ 32 ?hg (N := 87) ?hd (xs := ([(⟨x10_1, a2, t166⟩ : S32), (⟨a1, (⟨#[120]⟩ : ByteArray), 3⟩ : S32)] : List (S32))) (inner := [.string x10_1, .string a2, .int .i64 t166, .string a1, .string (⟨#[120]⟩ : ByteArray), .int .i64 3]) (ok := fun _ => True) (okp := fun _ => True) ?hr ?hp (fun _ hk => hk) trivial (Below.refl _ _) (Nat.le_refl _) (by simp) ?_; (case hd => rfl); (case hg => rfl); (case hr => first | (go_simp; done) | (go_simp; rfl)); (case hp => exact (Reps.c3 (show Kd.M k32 _ _ _ (⟨x10_1, a2, t166⟩ : S32) [.string x10_1, .string a2, .int .i64 t166] from (k32_mkM _ _ _ (⟨x10_1, a2, t166⟩ : S32) )) (Reps.c3 (show Kd.M k32 _ _ _ (⟨a1, (⟨#[120]⟩ : ByteArray), 3⟩ : S32) [.string a1, .string (⟨#[120]⟩ : ByteArray), .int .i64 3] from (k32_mkM _ _ _ (⟨a1, (⟨#[120]⟩ : ByteArray), 3⟩ : S32) )) (Reps.none _ _))))
                    intro v184 w96 ho97 hb hg_ hnew_
                    clear hg_ hnew_
                    (first | rw [← Ny183.out] at ho97 | (simp only [Int.reduceToNat] at ho97; rw [← Ny183.out] at ho97))
                    have n0_ := M.roB HO170 hb
                    have n1_ := M.roB HO174 hb
                    have n2_ := Aside0.mk (Kd.R_lower (Kd.R_newB ho97 (g := zaX) (o := .cells #[.string x10_1, .string a2, .int .i64 t166] 32 (0, 0)) (M.bk zaY)) (below_size (M.up HB)))
                    have n3_ := M.bkB zae hb
                    have n4_ := M.bkB zaY hb
                    have n5_ := M.bkB zbi hb
                    have n6_ := M.upS HB hb
                    clear HO170 HO174 zae zaY zbi HB
                    have HO170 := n0_
                    have HO174 := n1_
                    have HO185 := n2_
                    have zae := n3_
                    have zaY := n4_
                    have zbi := n5_
                    have HB := n6_
                    clear n0_ n1_ n2_ n3_ n4_ n5_ n6_
                    clear hb ho97
                    obtain ⟨Ao98, co98, eo98⟩ := Kd.R_slice HO185.out
                    (first | subst eo98 | (injection eo98 with f1_ f2_ f3_; have f4_ := f1_.symm; have f5_ := f3_.symm; clear f1_ f2_ f3_; subst f4_; subst f5_))
                    refine hK.out _ _ ⟨(blk_cell zae.out 0).trans rfl, (blk_cell zae.out 1).trans rfl, (blk_cell zae.out 2).trans rfl, (blk_cell zaY.out 0).trans rfl, (blk_cell zaY.out 1).trans rfl, (blk_cell zaY.out 2).trans rfl, (blk_cell zbi.out 0).trans rfl, (blk_cell zbi.out 1).trans rfl, (blk_cell zbi.out 2).trans rfl⟩ (fun hHeld => ?_)
                    clear hK K
                    refine norm_ (a' := ?_) ?_ ?_
                    rotate_left
                    · show Act.put _ (some 87) _ = _
                      simp only [Act.put, List.setIfInBounds_toArray, List.set_cons_zero, List.set_cons_succ, i64_w, i32_w]
                      rfl
                    refine one_ (i := 31) (N := some 88) (M.tf [33, 6]) rfl rfl (one_of HT_.out (by kernel_rfl)) (by decide) (fun K hK => ?_)
                    refine goes_ Try.func14 (by kernel_rfl) rfl #[.int .i64 a3, .slice Ao98 y183.length co98] (by rfl) rfl rfl (by (try simp only [List.map_toArray, List.map_cons, List.map_nil]); first | done | rfl | (simp only [List.length_drop, List.length_take]; rfl)) ?_
                    with_reducible refine (chunk_Over.calls k1 a3 _ _ y183 t186 t187 t190 _ ?side1 ?side2 A36.out).mono ?_
                    (case side1 => repeat (first | exact (Kd.R_reads' HO185.out).2.2 | (with_reducible refine Kd.C_alloc ?_ _) | (with_reducible refine Kd.C_drewN ?_ _) | (with_reducible refine Kd.C_drew ?_)))
                    (case side2 => exact (Kd.R_reads' HO185.out).2.1)
                    rintro e w99 ⟨v188, v191, rfl, ho0, ho1, hb⟩
                    refine ⟨_, rfl, ?_⟩
                    have n0_ := Aside0.mk (Kd.R_elder' (M.ro HO170) (Kd.R_base ho0) hb)
                    have n1_ := Aside0.mk (Kd.R_elder' (M.ro HO174) (Kd.R_base ho1) hb)
                    have n2_ := M.roB HO185 hb
                    have n3_ := Aside0.mk (Kd.R_lower (Kd.R_new' ho0 (Kd.R_lt (M.ro HO170))) (below_size (M.up HB)))
                    have n4_ := Aside0.mk (Kd.R_lower (Kd.R_new' ho1 (Kd.R_lt (M.ro HO174))) (below_size (M.up HB)))
                    have n5_ := M.bkB zae hb
                    have n6_ := M.bkB zaY hb
                    have n7_ := M.bkB zbi hb
                    have n8_ := M.upS HB hb
                    clear HO170 HO174 HO185 zae zaY zbi HB
                    have HO170 := n0_
                    have HO174 := n1_
                    have HO185 := n2_
                    have HO189 := n3_
                    have HO192 := n4_
                    have zae := n5_
                    have zaY := n6_
                    have zbi := n7_
                    have HB := n8_
                    clear n0_ n1_ n2_ n3_ n4_ n5_ n6_ n7_ n8_
                    (try clear hb)
                    (try clear hb2)
                    (try clear hk)
                    (try clear hi)
                    (try clear ho0)
                    (try clear ho1)
                    obtain ⟨Ao100, co100, eo100⟩ := Kd.R_slice HO189.out
                    (first | subst eo100 | (injection eo100 with f1_ f2_ f3_; have f4_ := f1_.symm; have f5_ := f3_.symm; clear f1_ f2_ f3_; subst f4_; subst f5_))
                    obtain ⟨Ao101, co101, eo101⟩ := Kd.R_slice HO192.out
                    (first | subst eo101 | (injection eo101 with f1_ f2_ f3_; have f4_ := f1_.symm; have f5_ := f3_.symm; clear f1_ f2_ f3_; subst f4_; subst f5_))
                    refine hK.out _ _ ⟨(blk_cell zae.out 0).trans rfl, (blk_cell zae.out 1).trans rfl, (blk_cell zae.out 2).trans rfl, (blk_cell zaY.out 0).trans rfl, (blk_cell zaY.out 1).trans rfl, (blk_cell zaY.out 2).trans rfl, (blk_cell zbi.out 0).trans rfl, (blk_cell zbi.out 1).trans rfl, (blk_cell zbi.out 2).trans rfl⟩ (fun hHeld => ?_)
                    clear hK K
                    refine norm_ (a' := ?_) ?_ ?_
                    rotate_left
                    · show Act.put _ (some 88) _ = _
                      simp only [Act.put, List.setIfInBounds_toArray, List.set_cons_zero, List.set_cons_succ, i64_w, i32_w]
                      rfl
                    refine one_ (i := 33) (N := some 90) (M.tf [34, 5]) rfl rfl (one_of HT_.out (by kernel_rfl)) (by decide) (fun K hK => ?_)
                    refine goes_ Try.func13 (by kernel_rfl) rfl #[.agg #[.int .i64 t186, .slice Ao100 t187.length co100, .slice Ao101 t190.length co101], .agg #[.int .i64 a3, .slice Ao84 y168.length co84, .slice Ao83 y172.length co83]] (by rfl) rfl rfl (by (try simp only [List.map_toArray, List.map_cons, List.map_nil]); first | done | rfl | (simp only [List.length_drop, List.length_take]; rfl)) ?_
                    with_reducible refine (pleachref19_Same.calls k1 t186 _ _ t187 _ _ t190 a3 _ _ y168 _ _ y172 false _ ?side1 ?side2 ?side3 ?side4 ?side5 ?side6 ?side7 ?side8 A37.out).mono ?_
                    (case side1 => repeat (first | exact (Kd.R_reads' HO189.out).2.2 | (with_reducible refine Kd.C_alloc ?_ _) | (with_reducible refine Kd.C_drewN ?_ _) | (with_reducible refine Kd.C_drew ?_)))
                    (case side2 => exact (Kd.R_reads' HO189.out).2.1)
                    (case side3 => repeat (first | exact (Kd.R_reads' HO192.out).2.2 | (with_reducible refine Kd.C_alloc ?_ _) | (with_reducible refine Kd.C_drewN ?_ _) | (with_reducible refine Kd.C_drew ?_)))
                    (case side4 => exact (Kd.R_reads' HO192.out).2.1)
                    (case side5 => repeat (first | exact (Kd.R_reads' HO170.out).2.2 | (with_reducible refine Kd.C_alloc ?_ _) | (with_reducible refine Kd.C_drewN ?_ _) | (with_reducible refine Kd.C_drew ?_)))
                    (case side6 => exact (Kd.R_reads' HO170.out).2.1)
                    (case side7 => repeat (first | exact (Kd.R_reads' HO174.out).2.2 | (with_reducible refine Kd.C_alloc ?_ _) | (with_reducible refine Kd.C_drewN ?_ _) | (with_reducible refine Kd.C_drew ?_)))
                    (case side8 => exact (Kd.R_reads' HO174.out).2.1)
                    rintro e w102 ⟨rfl, hb⟩
                    refine ⟨_, rfl, ?_⟩
                    have n0_ := M.roB HO170 hb
                    have n1_ := M.roB HO174 hb
                    have n2_ := M.roB HO185 hb
                    have n3_ := M.roB HO189 hb
                    have n4_ := M.roB HO192 hb
                    have n5_ := M.bkB zae hb
                    have n6_ := M.bkB zaY hb
                    have n7_ := M.bkB zbi hb
                    have n8_ := M.upS HB hb
                    clear HO170 HO174 HO185 HO189 HO192 zae zaY zbi HB
                    have HO170 := n0_
                    have HO174 := n1_
                    have HO185 := n2_
                    have HO189 := n3_
                    have HO192 := n4_
                    have zae := n5_
                    have zaY := n6_
                    have zbi := n7_
                    have HB := n8_
                    clear n0_ n1_ n2_ n3_ n4_ n5_ n6_ n7_ n8_
                    (try clear hb)
                    (try clear hb2)
                    (try clear hk)
                    (try clear hi)
                    refine hK.out _ _ ⟨(blk_cell zae.out 0).trans rfl, (blk_cell zae.out 1).trans rfl, (blk_cell zae.out 2).trans rfl, (blk_cell zaY.out 0).trans rfl, (blk_cell zaY.out 1).trans rfl, (blk_cell zaY.out 2).trans rfl, (blk_cell zbi.out 0).trans rfl, (blk_cell zbi.out 1).trans rfl, (blk_cell zbi.out 2).trans rfl⟩ (fun hHeld => ?_)
                    clear hK K
                    refine norm_ (a' := ?_) ?_ ?_
                    rotate_left
                    · show Act.put _ (some 90) _ = _
                      simp only [Act.put, List.setIfInBounds_toArray, List.set_cons_zero, List.set_cons_succ, i64_w, i32_w]
                      rfl
                    refine pure_ (i := 34) (N := some 91) (v := ?_) (a' := ?_) (M.tf [35, 4]) rfl rfl (any_of HT_.out (by kernel_rfl)) (fun _ _ _ h => h) (Or.inl ⟨by rfl, ?_⟩) ?_ ?_
                    rotate_left
                    · intro w'
                      go_simp
                      with_reducible rfl
                    rotate_left
                    · simp only [Act.put, List.setIfInBounds_toArray, List.set_cons_zero, List.set_cons_succ, i64_w, i32_w]
                      rfl
                    refine pure_ (i := 35) (N := some 92) (v := ?_) (a' := ?_) (M.tf [36, 3]) rfl rfl (any_of HT_.out (by kernel_rfl)) (fun _ _ _ h => h) (Or.inl ⟨by rfl, ?_⟩) ?_ ?_
                    rotate_left
                    · intro w'
                      go_simp
                      with_reducible rfl
                    rotate_left
                    · simp only [Act.put, List.setIfInBounds_toArray, List.set_cons_zero, List.set_cons_succ, i64_w, i32_w]
                      rfl
                    refine pure_ (i := 36) (N := some 93) (v := undef) (a' := ?_) (M.tf [37, 2]) rfl rfl (any_of HT_.out (by kernel_rfl)) (fun _ _ _ h => h) (Or.inr ⟨by rfl, rfl⟩) ?_ ?_
                    rotate_left
                    · simp only [Act.put, List.setIfInBounds_toArray, List.set_cons_zero, List.set_cons_succ, i64_w, i32_w]
                      rfl
                    refine pure_ (i := 37) (N := some 94) (v := ?_) (a' := ?_) (M.tf [38, 1]) rfl rfl (any_of HT_.out (by kernel_rfl)) (fun _ _ _ h => h) (Or.inl ⟨by rfl, ?_⟩) ?_ ?_
                    rotate_left
                    · intro w'
                      go_simp
                      with_reducible rfl
                    rotate_left
                    · simp only [Act.put, List.setIfInBounds_toArray, List.set_cons_zero, List.set_cons_succ, i64_w, i32_w]
                      rfl
                    refine pure_ (i := 38) (N := some 8) (v := ?_) (a' := ?_) (M.tf [39]) rfl rfl (any_of HT_.out (by kernel_rfl)) (fun _ _ _ h => h) (Or.inl ⟨by rfl, ?_⟩) ?_ ?_
                    rotate_left
                    · intro w'
                      go_simp
                      with_reducible rfl
                    rotate_left
                    · simp only [Act.put, List.setIfInBounds_toArray, List.set_cons_zero, List.set_cons_succ, i64_w, i32_w]
                      rfl
                    refine done_ (done_of HT_.out (by kernel_rfl)) ?_
                    try go_wp2
                    go_ret
                    exact M.fin (M.up HB)
                · rw [if_neg c35] at H
                  have c35b0 : (t180.toList == x10_1.toList && (t181.toList == a2.toList && (t182 == t166))) = false := by simpa using c35
                  (try (have c35b1 : decide (t180.toList = x10_1.toList && (t181.toList == a2.toList && (t182 == t166))) = false := by simpa using c35))
                  (try (have c35b2 : (t180.toList == x10_1.toList && (t181.toList == a2.toList && (t182 == t166))) = false := by simpa using c35))
                  (try (have c35b3 : ¬ (t180.toList = x10_1.toList && (t181.toList == a2.toList && (t182 == t166))) := by simpa using c35))
                  clear c35
                  obtain rfl := Option.some.inj H
                  obtain ⟨zb3, zb4, zb5⟩ := M.bc3 (w := wr) (a := .int .i64 a0_0) (b := .slice A0_1 l0_1.length c0_1) (c := .slice A0_2 l0_2.length c0_2) zae.out
                  obtain ⟨zb6, zb7, zb8⟩ := M.bf3 zae
                  try go_wp2_with (first | ((with_reducible refine gate_callee (f := 8) rfl ?_); refine M.goes (some 44) Try.func8 #[.agg #[.int .i64 a0_0, .slice A0_1 l0_1.length c0_1, .slice A0_2 l0_2.length c0_2]] rfl ?_; (with_reducible refine (pleachref19_Total.calls k1 a0_0 _ _ l0_1 _ _ l0_2 t166 _ ?side1 ?side2 ?side3 ?side4 A25.out).mono ?_); (case side1 => exact M.cB HR0_1 HB); (case side2 => exact HC0_1.out); (case side3 => exact M.cB HR0_2 HB); (case side4 => exact HC0_2.out); rintro e w104 ⟨rfl, hb⟩; refine ⟨_, rfl, ?_⟩; have n0_ := M.bkB zae hb; have n1_ := M.upS HB hb; clear zae HB; have zae := n0_; have HB := n1_; clear n0_ n1_; (try clear hb)) | ((with_reducible refine gate_dst (N := 13) rfl ?_); (try (refine gate_guard (by rfl) ?_; dsimp only)); refine box_event ?hg (N := 13) ?hd (cs := #[.string (⟨#[]⟩ : ByteArray), .string (⟨#[]⟩ : ByteArray), .int .i64 0]) (t := 32) ?hr ?_; (case hd => rfl); (case hg => rfl); (case hr => first | (go_simp; done) | (go_simp; rfl)); intro zaX hg w105 hbox hb; have n0_ := M.bkB zae hb; have n1_ := M.upS HB hb; have n2_ := Aside0.mk (hbox); have n3_ := M.upG HB hg; have n4_ := M.upG HB hg; have n5_ := M.bkL zae hg; have n6_ := M.bkG zae hg; clear zae HB; have zae := n0_; have HB := n1_; have zaY := n2_; have zaZ := n3_; have za0 := n4_; have za1 := n5_; have za2 := n6_; clear n0_ n1_ n2_ n3_ n4_ n5_ n6_; clear hb hbox hg; have zb9 := za2.out; have zca := za1.out; obtain ⟨zcb, zcc, zcd⟩ := M.bc3 (w := w105) (a := .string (⟨#[]⟩ : ByteArray)) (b := .string (⟨#[]⟩ : ByteArray)) (c := .int .i64 0) zaY.out; obtain ⟨zce, zcf, zcg⟩ := M.bf3 zaY) | ((with_reducible refine gate_dst (N := 52) rfl ?_); (try (refine gate_guard (by rfl) ?_; dsimp only)); refine Kd.R_lit k29 _ 29 ?hg (N := 52) ?hd (xs := ([(⟨x10_1, a2⟩ : S29), (⟨a1, (⟨#[120]⟩ : ByteArray)⟩ : S29)] : List (S29))) (inner := [.string x10_1, .string a2, .string a1, .string (⟨#[120]⟩ : ByteArray)]) (ok := fun _ => True) (okp := fun _ => True) ?hr ?hp (fun _ hk => hk) trivial (Below.refl _ _) (Nat.le_refl _) (by simp) ?_; (case hd => rfl); (case hg => rfl); (case hr => first | (go_simp; done) | (go_simp; rfl)); (case hp => exact (Reps.c2 (show Kd.M k29 _ _ _ (⟨x10_1, a2⟩ : S29) [.string x10_1, .string a2] from (k29_mkM _ _ _ (⟨x10_1, a2⟩ : S29) )) (Reps.c2 (show Kd.M k29 _ _ _ (⟨a1, (⟨#[120]⟩ : ByteArray)⟩ : S29) [.string a1, .string (⟨#[120]⟩ : ByteArray)] from (k29_mkM _ _ _ (⟨a1, (⟨#[120]⟩ : ByteArray)⟩ : S29) )) (Reps.none _ _)))); intro v169 w108 ho109 hb hg_ hnew_; clear hg_ hnew_; (first | rw [← Ny168.out] at ho109 | (simp only [Int.reduceToNat] at ho109; rw [← Ny168.out] at ho109)); have n0_ := Aside0.mk (Kd.R_lower ho109 (below_size (M.up HB))); have n1_ := Aside0.mk (blk_below (g := zad) (o := .cells #[.int .i64 a0_0, .slice A0_1 l0_1.length c0_1, .slice A0_2 l0_2.length c0_2] 25 (0, 0)) (by (with_reducible repeat (first | refine blk_drewN ?_ _ | refine blk_drew ?_ | refine blk_alloc ?_ _)); refine blk_far ?_ za1.out _; (with_reducible repeat (first | refine blk_drewN ?_ _ | refine blk_drew ?_ | refine blk_alloc ?_ _)); refine blk_far ?_ za1.out _; (with_reducible repeat (first | refine blk_drewN ?_ _ | refine blk_drew ?_ | refine blk_alloc ?_ _)); refine blk_far ?_ za1.out _; (with_reducible repeat (first | refine blk_drewN ?_ _ | refine blk_drew ?_ | refine blk_alloc ?_ _)); exact zae.out) hb); have n2_ := Aside0.mk (blk_below (g := zaX) (o := .cells #[.string x10_1, .string a2, .int .i64 t166] 32 (0, 0)) (by (with_reducible repeat (first | refine blk_drewN ?_ _ | refine blk_drew ?_ | refine blk_alloc ?_ _)); refine blk_put (cs := #[.string x10_1, .string a2, .int .i64 0]) ?_ 2 _ rfl; (with_reducible repeat (first | refine blk_drewN ?_ _ | refine blk_drew ?_ | refine blk_alloc ?_ _)); refine blk_put (cs := #[.string x10_1, .string (⟨#[]⟩ : ByteArray), .int .i64 0]) ?_ 1 _ rfl; (with_reducible repeat (first | refine blk_drewN ?_ _ | refine blk_drew ?_ | refine blk_alloc ?_ _)); refine blk_put (cs := #[.string (⟨#[]⟩ : ByteArray), .string (⟨#[]⟩ : ByteArray), .int .i64 0]) ?_ 0 _ rfl; (with_reducible repeat (first | refine blk_drewN ?_ _ | refine blk_drew ?_ | refine blk_alloc ?_ _)); exact zaY.out) hb); have n3_ := M.upS HB hb; clear zae zaY HB; have HO170 := n0_; have zae := n1_; have zaY := n2_; have HB := n3_; clear n0_ n1_ n2_ n3_; clear hb ho109; obtain ⟨zch, zci, zcj⟩ := M.bc3 (w := w108) (a := .int .i64 a0_0) (b := .slice A0_1 l0_1.length c0_1) (c := .slice A0_2 l0_2.length c0_2) zae.out; obtain ⟨zck, zcl, zcm⟩ := M.bf3 zae) | ((with_reducible refine gate_callee (f := 8) rfl ?_); refine M.goes (some 54) Try.func8 #[.agg #[.int .i64 a0_0, .slice A0_1 l0_1.length c0_1, .slice A0_2 l0_2.length c0_2]] rfl ?_; (with_reducible refine (pleachref19_Total.calls k1 a0_0 _ _ l0_1 _ _ l0_2 t171 _ ?side1 ?side2 ?side3 ?side4 A26.out).mono ?_); (case side1 => exact M.cB HR0_1 HB); (case side2 => exact HC0_1.out); (case side3 => exact M.cB HR0_2 HB); (case side4 => exact HC0_2.out); rintro e w111 ⟨rfl, hb⟩; refine ⟨_, rfl, ?_⟩; have n0_ := M.roB HO170 hb; have n1_ := M.bkB zae hb; have n2_ := M.bkB zaY hb; have n3_ := M.upS HB hb; clear HO170 zae zaY HB; have HO170 := n0_; have zae := n1_; have zaY := n2_; have HB := n3_; clear n0_ n1_ n2_ n3_; (try clear hb)) | ((with_reducible refine gate_dst (N := 55) rfl ?_); (try (refine gate_guard (by rfl) ?_; dsimp only)); refine Kd.R_lit (Kd.int .i64) _ 3 ?hg (N := 55) ?hd (xs := ([t171, 3] : List Int)) (inner := [.int .i64 t171, .int .i64 3]) (ok := fun _ => True) (okp := fun _ => True) ?hr ?hp (fun _ hk => hk) trivial (Below.refl _ _) (Nat.le_refl _) (by simp) ?_; (case hd => rfl); (case hg => rfl); (case hr => first | (go_simp; done) | (go_simp; rfl)); (case hp => exact (Reps.one (show Kd.M (Kd.int .i64) _ _ _ t171 [.int .i64 t171] from rfl) (Reps.one (show Kd.M (Kd.int .i64) _ _ _ 3 [.int .i64 3] from rfl) (Reps.none _ _)))); intro v173 w112 ho113 hb hg_ hnew_; clear hg_ hnew_; (first | rw [← Ny172.out] at ho113 | (simp only [Int.reduceToNat] at ho113; rw [← Ny172.out] at ho113)); have n0_ := M.roB HO170 hb; have n1_ := Aside0.mk (Kd.R_lower ho113 (below_size (M.up HB))); have n2_ := M.bkB zae hb; have n3_ := M.bkB zaY hb; have n4_ := M.upS HB hb; clear HO170 zae zaY HB; have HO170 := n0_; have HO174 := n1_; have zae := n2_; have zaY := n3_; have HB := n4_; clear n0_ n1_ n2_ n3_ n4_; clear hb ho113; obtain ⟨Ao114, co114, eo114⟩ := Kd.R_slice HO174.out; subst eo114; obtain ⟨Ao115, co115, eo115⟩ := Kd.R_slice HO170.out; subst eo115) | ((with_reducible refine gate_dst (N := 14) rfl ?_); (try (refine gate_guard (by rfl) ?_; dsimp only)); refine box_event ?hg (N := 14) ?hd (cs := #[.int .i64 0, .slice none 0 0, .slice none 0 0]) (t := 25) ?hr ?_; (case hd => rfl); (case hg => rfl); (case hr => first | (go_simp; done) | (go_simp; rfl)); intro zbh hg w116 hbox hb; have n0_ := M.roB HO170 hb; have n1_ := M.roB HO174 hb; have n2_ := M.bkB zae hb; have n3_ := M.bkB zaY hb; have n4_ := M.upS HB hb; have n5_ := Aside0.mk (hbox); have n6_ := M.upG HB hg; have n7_ := M.upG HB hg; have n8_ := M.bkL zae hg; have n9_ := M.bkG zae hg; have n10_ := M.bkL zaY hg; have n11_ := M.bkG zaY hg; clear HO170 HO174 zae zaY HB; have HO170 := n0_; have HO174 := n1_; have zae := n2_; have zaY := n3_; have HB := n4_; have zbi := n5_; have zbj := n6_; have zbk := n7_; have zbl := n8_; have zbm := n9_; have zbn := n10_; have zbo := n11_; clear n0_ n1_ n2_ n3_ n4_ n5_ n6_ n7_ n8_ n9_ n10_ n11_; clear hb hbox hg; have zcn := zbm.out; have zco := zbl.out; have zcp := zbo.out; have zcq := zbn.out; obtain ⟨zcr, zcs, zct⟩ := M.bc3 (w := w116) (a := .int .i64 0) (b := .slice none 0 0) (c := .slice none 0 0) zbi.out; obtain ⟨zcu, zcv, zcw⟩ := M.bf3 zbi))
                  have n0_ : Aside0 (Kd.R k29 29 (((w116.setCell ⟨zbh, 0, none⟩ (.int .i64 a3)).setCell ⟨zbh, 1, none⟩ (.slice Ao115 y168.length co115)).setCell ⟨zbh, 2, none⟩ (.slice Ao114 y172.length co114)) w.heap.size (fun _ => True) (.slice Ao115 y168.length co115) y168) := ⟨by (with_reducible repeat (first | apply Kd.R_alloc | apply Kd.R_drewN | apply Kd.R_drew)); exact Kd.R_mono (Kd.R_far (p := ⟨zbh, 2, none⟩) (Kd.R_far (p := ⟨zbh, 1, none⟩) (Kd.R_far (p := ⟨zbh, 0, none⟩) (Kd.R_types HO170.out zbi.out (by decide)) (fun _ hk => hk.2) (.int .i64 a3)) (fun _ hk => hk.2) (.slice Ao115 y168.length co115)) (fun _ hk => hk.2) (.slice Ao114 y172.length co114)) (fun _ hk => trivial)⟩
                  have n1_ : Aside0 (Kd.R (Kd.int .i64) 3 (((w116.setCell ⟨zbh, 0, none⟩ (.int .i64 a3)).setCell ⟨zbh, 1, none⟩ (.slice Ao115 y168.length co115)).setCell ⟨zbh, 2, none⟩ (.slice Ao114 y172.length co114)) w.heap.size (fun _ => True) (.slice Ao114 y172.length co114) y172) := ⟨by (with_reducible repeat (first | apply Kd.R_alloc | apply Kd.R_drewN | apply Kd.R_drew)); exact Kd.R_mono (Kd.R_far (p := ⟨zbh, 2, none⟩) (Kd.R_far (p := ⟨zbh, 1, none⟩) (Kd.R_far (p := ⟨zbh, 0, none⟩) (Kd.R_types HO174.out zbi.out (by decide)) (fun _ hk => hk.2) (.int .i64 a3)) (fun _ hk => hk.2) (.slice Ao115 y168.length co115)) (fun _ hk => hk.2) (.slice Ao114 y172.length co114)) (fun _ hk => trivial)⟩
                  have n2_ : Aside0 ((((w116.setCell ⟨zbh, 0, none⟩ (.int .i64 a3)).setCell ⟨zbh, 1, none⟩ (.slice Ao115 y168.length co115)).setCell ⟨zbh, 2, none⟩ (.slice Ao114 y172.length co114)).heap[zad]? = some (.cells #[.int .i64 a0_0, .slice A0_1 l0_1.length c0_1, .slice A0_2 l0_2.length c0_2] 25 (0, 0))) := ⟨by (with_reducible repeat (first | refine blk_drewN ?_ _ | refine blk_drew ?_ | refine blk_alloc ?_ _)); refine blk_far ?_ zbl.out _; (with_reducible repeat (first | refine blk_drewN ?_ _ | refine blk_drew ?_ | refine blk_alloc ?_ _)); refine blk_far ?_ zbl.out _; (with_reducible repeat (first | refine blk_drewN ?_ _ | refine blk_drew ?_ | refine blk_alloc ?_ _)); refine blk_far ?_ zbl.out _; (with_reducible repeat (first | refine blk_drewN ?_ _ | refine blk_drew ?_ | refine blk_alloc ?_ _)); exact zae.out⟩
                  have n3_ : Aside0 ((((w116.setCell ⟨zbh, 0, none⟩ (.int .i64 a3)).setCell ⟨zbh, 1, none⟩ (.slice Ao115 y168.length co115)).setCell ⟨zbh, 2, none⟩ (.slice Ao114 y172.length co114)).heap[zaX]? = some (.cells #[.string x10_1, .string a2, .int .i64 t166] 32 (0, 0))) := ⟨by (with_reducible repeat (first | refine blk_drewN ?_ _ | refine blk_drew ?_ | refine blk_alloc ?_ _)); refine blk_far ?_ zbn.out _; (with_reducible repeat (first | refine blk_drewN ?_ _ | refine blk_drew ?_ | refine blk_alloc ?_ _)); refine blk_far ?_ zbn.out _; (with_reducible repeat (first | refine blk_drewN ?_ _ | refine blk_drew ?_ | refine blk_alloc ?_ _)); refine blk_far ?_ zbn.out _; (with_reducible repeat (first | refine blk_drewN ?_ _ | refine blk_drew ?_ | refine blk_alloc ?_ _)); exact zaY.out⟩
                  have n4_ : Aside0 ((((w116.setCell ⟨zbh, 0, none⟩ (.int .i64 a3)).setCell ⟨zbh, 1, none⟩ (.slice Ao115 y168.length co115)).setCell ⟨zbh, 2, none⟩ (.slice Ao114 y172.length co114)).heap[zbh]? = some (.cells #[.int .i64 a3, .slice Ao115 y168.length co115, .slice Ao114 y172.length co114] 25 (0, 0))) := ⟨by (with_reducible repeat (first | refine blk_drewN ?_ _ | refine blk_drew ?_ | refine blk_alloc ?_ _)); refine blk_put (cs := #[.int .i64 a3, .slice Ao115 y168.length co115, .slice none 0 0]) ?_ 2 _ rfl; (with_reducible repeat (first | refine blk_drewN ?_ _ | refine blk_drew ?_ | refine blk_alloc ?_ _)); refine blk_put (cs := #[.int .i64 a3, .slice none 0 0, .slice none 0 0]) ?_ 1 _ rfl; (with_reducible repeat (first | refine blk_drewN ?_ _ | refine blk_drew ?_ | refine blk_alloc ?_ _)); refine blk_put (cs := #[.int .i64 0, .slice none 0 0, .slice none 0 0]) ?_ 0 _ rfl; (with_reducible repeat (first | refine blk_drewN ?_ _ | refine blk_drew ?_ | refine blk_alloc ?_ _)); exact zbi.out⟩
                  have n5_ : Aside0 (Below w.heap.size w (((w116.setCell ⟨zbh, 0, none⟩ (.int .i64 a3)).setCell ⟨zbh, 1, none⟩ (.slice Ao115 y168.length co115)).setCell ⟨zbh, 2, none⟩ (.slice Ao114 y172.length co114))) := ⟨M.up HB⟩
                  (try clear HO170)
                  (try clear HO174)
                  (try clear zae)
                  (try clear zaY)
                  (try clear zbi)
                  (try clear HB)
                  generalize (((w116.setCell ⟨zbh, 0, none⟩ (.int .i64 a3)).setCell ⟨zbh, 1, none⟩ (.slice Ao115 y168.length co115)).setCell ⟨zbh, 2, none⟩ (.slice Ao114 y172.length co114)) = w120 at n0_ n1_ n2_ n3_ n4_ n5_ ⊢
                  have HO170 := n0_
                  have HO174 := n1_
                  have zae := n2_
                  have zaY := n3_
                  have zbi := n4_
                  have HB := n5_
                  clear n0_ n1_ n2_ n3_ n4_ n5_
                  have n0_ := Aside0.mk (Kd.R_drew HO170.out)
                  have n1_ := Aside0.mk (Kd.R_drew HO174.out)
                  have n2_ := Aside0.mk (blk_drew zae.out)
                  have n3_ := Aside0.mk (blk_drew zaY.out)
                  have n4_ := Aside0.mk (blk_drew zbi.out)
                  have n5_ := Aside0.mk (below_drew1 HB.out)
                  clear HO170 HO174 zae zaY zbi HB
                  have HO170 := n0_
                  have HO174 := n1_
                  have zae := n2_
                  have zaY := n3_
                  have zbi := n4_
                  have HB := n5_
                  clear n0_ n1_ n2_ n3_ n4_ n5_
                  refine start_ (n := 39) (S := fun w' => w'.cell? ⟨zad, 0, none⟩ = some (.int .i64 a0_0) ∧ w'.cell? ⟨zad, 1, none⟩ = some (.slice A0_1 l0_1.length c0_1) ∧ w'.cell? ⟨zad, 2, none⟩ = some (.slice A0_2 l0_2.length c0_2) ∧ w'.cell? ⟨zaX, 0, none⟩ = some (.string x10_1) ∧ w'.cell? ⟨zaX, 1, none⟩ = some (.string a2) ∧ w'.cell? ⟨zaX, 2, none⟩ = some (.int .i64 t166)) (ds := []) (M.tf [0, 39]) (by kernel_rfl) rfl rfl ⟨(blk_cell zae.out 0).trans rfl, (blk_cell zae.out 1).trans rfl, (blk_cell zae.out 2).trans rfl, (blk_cell zaY.out 0).trans rfl, (blk_cell zaY.out 1).trans rfl, (blk_cell zaY.out 2).trans rfl⟩ (fun hHeld => ?_); refine with_tabW pleachlaw19_ChunkTells.tab13 pleachlaw19_ChunkTells.bits13 (fun HT_ HW_ => ?_)
                  generalize w120.drew = w121 at HO170 HO174 zae zaY zbi HB hHeld ⊢
                  refine take_ (i := 0) (N := some 57) (v := ?_) (a' := ?_) (M.tf [1, 38]) rfl rfl (take_ofW HT_.out HW_.out (by kernel_rfl)) (fun _ _ _ h => h) (Or.inl ⟨by rfl, ?_⟩) hHeld ?_ ?_
                  rotate_left
                  · rintro w' ⟨s0, s1, s2, s3, s4, s5⟩
                    go_simp
                    with_reducible rfl
                  rotate_left
                  · simp only [Act.put, List.setIfInBounds_toArray, List.set_cons_zero, List.set_cons_succ, i64_w, i32_w]
                    rfl
                  refine take_ (i := 2) (N := some 59) (v := ?_) (a' := ?_) (M.tf [1, 1, 1, 36]) rfl rfl (take_ofW HT_.out HW_.out (by kernel_rfl)) (fun _ _ _ h => h) (Or.inl ⟨by rfl, ?_⟩) hHeld ?_ ?_
                  rotate_left
                  · rintro w' ⟨s0, s1, s2, s3, s4, s5⟩
                    go_simp
                    with_reducible rfl
                  rotate_left
                  · simp only [Act.put, List.setIfInBounds_toArray, List.set_cons_zero, List.set_cons_succ, i64_w, i32_w]
                    rfl
                  refine one_ (i := 1) (N := some 58) (M.tf [3, 36]) rfl rfl (one_of HT_.out (by kernel_rfl)) (by decide) (fun K hK => ?_)
                  refine goes_ Try.func9 (by kernel_rfl) rfl #[.agg #[.int .i64 a0_0, .slice A0_1 l0_1.length c0_1, .slice A0_2 l0_2.length c0_2]] (by rfl) rfl rfl (by (try simp only [List.map_toArray, List.map_cons, List.map_nil]); first | done | rfl | (simp only [List.length_drop, List.length_take]; rfl)) ?_
                  with_reducible refine (chunk_Total.calls k1 a0_0 _ _ l0_1 _ _ l0_2 t176 _ ?side1 ?side2 ?side3 ?side4 A27.out).mono ?_
                  (case side1 => exact M.cB HR0_1 HB)
                  (case side2 => exact HC0_1.out)
                  (case side3 => exact M.cB HR0_2 HB)
                  (case side4 => exact HC0_2.out)
                  rintro e w122 ⟨rfl, hb⟩
                  refine ⟨_, rfl, ?_⟩
                  have n0_ := M.roB HO170 hb
                  have n1_ := M.roB HO174 hb
                  have n2_ := M.bkB zae hb
                  have n3_ := M.bkB zaY hb
                  have n4_ := M.bkB zbi hb
                  have n5_ := M.upS HB hb
                  clear HO170 HO174 zae zaY zbi HB
                  have HO170 := n0_
                  have HO174 := n1_
                  have zae := n2_
                  have zaY := n3_
                  have zbi := n4_
                  have HB := n5_
                  clear n0_ n1_ n2_ n3_ n4_ n5_
                  (try clear hb)
                  (try clear hb2)
                  (try clear hk)
                  (try clear hi)
                  refine hK.out _ _ ⟨(blk_cell zae.out 0).trans rfl, (blk_cell zae.out 1).trans rfl, (blk_cell zae.out 2).trans rfl, (blk_cell zaY.out 0).trans rfl, (blk_cell zaY.out 1).trans rfl, (blk_cell zaY.out 2).trans rfl⟩ (fun hHeld => ?_)
                  clear hK K
                  refine norm_ (a' := ?_) ?_ ?_
                  rotate_left
                  · show Act.put _ (some 58) _ = _
                    simp only [Act.put, List.setIfInBounds_toArray, List.set_cons_zero, List.set_cons_succ, i64_w, i32_w]
                    rfl
                  refine one_ (i := 3) (N := some 60) (M.tf [4, 35]) rfl rfl (one_of HT_.out (by kernel_rfl)) (by decide) (fun K hK => ?_)
                  refine goes_ Try.func8 (by kernel_rfl) rfl #[.agg #[.int .i64 a0_0, .slice A0_1 l0_1.length c0_1, .slice A0_2 l0_2.length c0_2]] (by rfl) rfl rfl (by (try simp only [List.map_toArray, List.map_cons, List.map_nil]); first | done | rfl | (simp only [List.length_drop, List.length_take]; rfl)) ?_
                  with_reducible refine (pleachref19_Total.calls k1 a0_0 _ _ l0_1 _ _ l0_2 t177 _ ?side1 ?side2 ?side3 ?side4 A28.out).mono ?_
                  (case side1 => exact M.cB HR0_1 HB)
                  (case side2 => exact HC0_1.out)
                  (case side3 => exact M.cB HR0_2 HB)
                  (case side4 => exact HC0_2.out)
                  rintro e w123 ⟨rfl, hb⟩
                  refine ⟨_, rfl, ?_⟩
                  have n0_ := M.roB HO170 hb
                  have n1_ := M.roB HO174 hb
                  have n2_ := M.bkB zae hb
                  have n3_ := M.bkB zaY hb
                  have n4_ := M.bkB zbi hb
                  have n5_ := M.upS HB hb
                  clear HO170 HO174 zae zaY zbi HB
                  have HO170 := n0_
                  have HO174 := n1_
                  have zae := n2_
                  have zaY := n3_
                  have zbi := n4_
                  have HB := n5_
                  clear n0_ n1_ n2_ n3_ n4_ n5_
                  (try clear hb)
                  (try clear hb2)
                  (try clear hk)
                  (try clear hi)
                  refine hK.out _ _ ⟨(blk_cell zae.out 0).trans rfl, (blk_cell zae.out 1).trans rfl, (blk_cell zae.out 2).trans rfl, (blk_cell zaY.out 0).trans rfl, (blk_cell zaY.out 1).trans rfl, (blk_cell zaY.out 2).trans rfl⟩ (fun hHeld => ?_)
                  clear hK K
                  refine norm_ (a' := ?_) ?_ ?_
                  rotate_left
                  · show Act.put _ (some 60) _ = _
                    simp only [Act.put, List.setIfInBounds_toArray, List.set_cons_zero, List.set_cons_succ, i64_w, i32_w]
                    rfl
                  refine pure_ (i := 4) (N := some 61) (v := ?_) (a' := ?_) (M.tf [5, 34]) rfl rfl (any_of HT_.out (by kernel_rfl)) (fun _ _ _ h => h) (Or.inl ⟨by rfl, ?_⟩) ?_ ?_
                  rotate_left
                  · intro w'
                    go_simp
                    with_reducible rfl
                  rotate_left
                  · simp only [Act.put, List.setIfInBounds_toArray, List.set_cons_zero, List.set_cons_succ, i64_w, i32_w]
                    rfl
                  refine pure_ (i := 5) (N := some 62) (v := ?_) (a' := ?_) (M.tf [6, 33]) rfl rfl (any_of HT_.out (by kernel_rfl)) (fun _ _ _ h => h) (Or.inl ⟨by rfl, ?_⟩) ?_ ?_
                  rotate_left
                  · intro w'
                    go_simp
                    with_reducible rfl
                  rotate_left
                  · simp only [Act.put, List.setIfInBounds_toArray, List.set_cons_zero, List.set_cons_succ, i64_w, i32_w]
                    rfl
                  refine pure_ (i := 8) (N := some 65) (v := ?_) (a' := ?_) (M.tf [6, 2, 1, 30]) rfl rfl (any_of HT_.out (by kernel_rfl)) (fun _ _ _ h => h) (Or.inl ⟨by rfl, ?_⟩) ?_ ?_
                  rotate_left
                  · intro w'
                    go_simp
                    with_reducible rfl
                  rotate_left
                  · simp only [Act.put, List.setIfInBounds_toArray, List.set_cons_zero, List.set_cons_succ, i64_w, i32_w]
                    rfl
                  refine take_ (i := 6) (N := some 63) (v := ?_) (a' := ?_) (M.tf [7, 1, 1, 30]) rfl rfl (take_ofW HT_.out HW_.out (by kernel_rfl)) (fun _ _ _ h => h) (Or.inl ⟨by rfl, ?_⟩) hHeld ?_ ?_
                  rotate_left
                  · rintro w' ⟨s0, s1, s2, s3, s4, s5⟩
                    go_simp
                    with_reducible rfl
                  rotate_left
                  · simp only [Act.put, List.setIfInBounds_toArray, List.set_cons_zero, List.set_cons_succ, i64_w, i32_w]
                    rfl
                  refine one_ (i := 7) (N := some 64) (M.tf [9, 30]) rfl rfl (one_of HT_.out (by kernel_rfl)) (by decide) (fun K hK => ?_)
                  refine goes_ Try.func10 (by kernel_rfl) rfl #[.agg #[.int .i64 a0_0, .slice A0_1 l0_1.length c0_1, .slice A0_2 l0_2.length c0_2]] (by rfl) rfl rfl (by (try simp only [List.map_toArray, List.map_cons, List.map_nil]); first | done | rfl | (simp only [List.length_drop, List.length_take]; rfl)) ?_
                  with_reducible refine (chunk_Last.calls a0_0 _ _ l0_1 _ _ l0_2 t178 _ ?side1 ?side2 ?side3 ?side4 A30.out).mono ?_
                  (case side1 => exact M.cB HR0_1 HB)
                  (case side2 => exact HC0_1.out)
                  (case side3 => exact M.cB HR0_2 HB)
                  (case side4 => exact HC0_2.out)
                  rintro e w124 ⟨rfl, hb⟩
                  refine ⟨_, rfl, ?_⟩
                  have n0_ := M.roB HO170 hb
                  have n1_ := M.roB HO174 hb
                  have n2_ := M.bkB zae hb
                  have n3_ := M.bkB zaY hb
                  have n4_ := M.bkB zbi hb
                  have n5_ := M.upS HB hb
                  clear HO170 HO174 zae zaY zbi HB
                  have HO170 := n0_
                  have HO174 := n1_
                  have zae := n2_
                  have zaY := n3_
                  have zbi := n4_
                  have HB := n5_
                  clear n0_ n1_ n2_ n3_ n4_ n5_
                  (try clear hb)
                  (try clear hb2)
                  (try clear hk)
                  (try clear hi)
                  refine hK.out _ _ ⟨(blk_cell zae.out 0).trans rfl, (blk_cell zae.out 1).trans rfl, (blk_cell zae.out 2).trans rfl, (blk_cell zaY.out 0).trans rfl, (blk_cell zaY.out 1).trans rfl, (blk_cell zaY.out 2).trans rfl⟩ (fun hHeld => ?_)
                  clear hK K
                  refine norm_ (a' := ?_) ?_ ?_
                  rotate_left
                  · show Act.put _ (some 64) _ = _
                    simp only [Act.put, List.setIfInBounds_toArray, List.set_cons_zero, List.set_cons_succ, i64_w, i32_w]
                    rfl
                  refine pure_ (i := 9) (N := some 66) (v := ?_) (a' := ?_) (M.tf [10, 29]) rfl rfl (any_of HT_.out (by kernel_rfl)) (fun _ _ _ h => h) (Or.inl ⟨by rfl, ?_⟩) ?_ ?_
                  rotate_left
                  · intro w'
                    go_simp
                    with_reducible rfl
                  rotate_left
                  · simp only [Act.put, List.setIfInBounds_toArray, List.set_cons_zero, List.set_cons_succ, i64_w, i32_w]
                    rfl
                  refine pure_ (i := 10) (N := some 67) (v := ?_) (a' := ?_) (M.tf [11, 28]) rfl rfl (any_of HT_.out (by kernel_rfl)) (fun _ _ _ h => h) (Or.inl ⟨by rfl, ?_⟩) ?_ ?_
                  rotate_left
                  · intro w'
                    go_simp
                    with_reducible rfl
                  rotate_left
                  · simp only [Act.put, List.setIfInBounds_toArray, List.set_cons_zero, List.set_cons_succ, i64_w, i32_w]
                    rfl
                  refine pure_ (i := 11) (N := some 68) (v := ?_) (a' := ?_) (M.tf [12, 27]) rfl rfl (any_of HT_.out (by kernel_rfl)) (fun _ _ _ h => h) (Or.inl ⟨by rfl, ?_⟩) ?_ ?_
                  rotate_left
                  · intro w'
                    go_simp
                    with_reducible rfl
                  rotate_left
                  · simp only [Act.put, List.setIfInBounds_toArray, List.set_cons_zero, List.set_cons_succ, i64_w, i32_w]
                    rfl
                  refine pure_ (i := 13) (N := some 70) (v := ?_) (a' := ?_) (M.tf [12, 1, 1, 25]) rfl rfl (any_of HT_.out (by kernel_rfl)) (fun _ _ _ h => h) (Or.inl ⟨by rfl, ?_⟩) ?_ ?_
                  rotate_left
                  · intro w'
                    go_simp
                    with_reducible rfl
                  rotate_left
                  · simp only [Act.put, List.setIfInBounds_toArray, List.set_cons_zero, List.set_cons_succ, i64_w, i32_w]
                    rfl
                  refine pure_ (i := 15) (N := some 72) (v := ?_) (a' := ?_) (M.tf [12, 1, 1, 1, 1, 23]) rfl rfl (any_of HT_.out (by kernel_rfl)) (fun _ _ _ h => h) (Or.inl ⟨by rfl, ?_⟩) ?_ ?_
                  rotate_left
                  · intro w'
                    go_simp
                    with_reducible rfl
                  rotate_left
                  · simp only [Act.put, List.setIfInBounds_toArray, List.set_cons_zero, List.set_cons_succ, i64_w, i32_w]
                    rfl
                  refine take_ (i := 12) (N := some 69) (v := ?_) (a' := ?_) (M.tf [14, 1, 1, 23]) rfl rfl (take_ofW HT_.out HW_.out (by kernel_rfl)) (fun _ _ _ h => h) (Or.inl ⟨by rfl, ?_⟩) hHeld ?_ ?_
                  rotate_left
                  · rintro w' ⟨s0, s1, s2, s3, s4, s5⟩
                    go_simp
                    with_reducible rfl
                  rotate_left
                  · simp only [Act.put, List.setIfInBounds_toArray, List.set_cons_zero, List.set_cons_succ, i64_w, i32_w]
                    rfl
                  refine one_ (i := 14) (N := some 71) (M.tf [16, 23]) rfl rfl (one_of HT_.out (by kernel_rfl)) (by decide) (fun K hK => ?_)
                  refine goes_ Try.func11 (by kernel_rfl) rfl #[.agg #[.int .i64 a0_0, .slice A0_1 l0_1.length c0_1, .slice A0_2 l0_2.length c0_2], .string a1] (by rfl) rfl rfl (by (try simp only [List.map_toArray, List.map_cons, List.map_nil]); first | done | rfl | (simp only [List.length_drop, List.length_take]; rfl)) ?_
                  with_reducible refine (chunk_Find.calls k1 a0_0 _ _ l0_1 _ _ l0_2 a1 t179 _ ?side1 ?side2 ?side3 ?side4 A32.out).mono ?_
                  (case side1 => exact M.cB HR0_1 HB)
                  (case side2 => exact HC0_1.out)
                  (case side3 => exact M.cB HR0_2 HB)
                  (case side4 => exact HC0_2.out)
                  rintro e w125 ⟨rfl, hb⟩
                  refine ⟨_, rfl, ?_⟩
                  have n0_ := M.roB HO170 hb
                  have n1_ := M.roB HO174 hb
                  have n2_ := M.bkB zae hb
                  have n3_ := M.bkB zaY hb
                  have n4_ := M.bkB zbi hb
                  have n5_ := M.upS HB hb
                  clear HO170 HO174 zae zaY zbi HB
                  have HO170 := n0_
                  have HO174 := n1_
                  have zae := n2_
                  have zaY := n3_
                  have zbi := n4_
                  have HB := n5_
                  clear n0_ n1_ n2_ n3_ n4_ n5_
                  (try clear hb)
                  (try clear hb2)
                  (try clear hk)
                  (try clear hi)
                  refine hK.out _ _ ⟨(blk_cell zae.out 0).trans rfl, (blk_cell zae.out 1).trans rfl, (blk_cell zae.out 2).trans rfl, (blk_cell zaY.out 0).trans rfl, (blk_cell zaY.out 1).trans rfl, (blk_cell zaY.out 2).trans rfl⟩ (fun hHeld => ?_)
                  clear hK K
                  refine norm_ (a' := ?_) ?_ ?_
                  rotate_left
                  · show Act.put _ (some 71) _ = _
                    simp only [Act.put, List.setIfInBounds_toArray, List.set_cons_zero, List.set_cons_succ, i64_w, i32_w]
                    rfl
                  refine pure_ (i := 16) (N := some 73) (v := ?_) (a' := ?_) (M.tf [17, 22]) rfl rfl (any_of HT_.out (by kernel_rfl)) (fun _ _ _ h => h) (Or.inl ⟨by rfl, ?_⟩) ?_ ?_
                  rotate_left
                  · intro w'
                    go_simp
                    with_reducible rfl
                  rotate_left
                  · simp only [Act.put, List.setIfInBounds_toArray, List.set_cons_zero, List.set_cons_succ, i64_w, i32_w]
                    rfl
                  refine pure_ (i := 17) (N := some 74) (v := ?_) (a' := ?_) (M.tf [18, 21]) rfl rfl (any_of HT_.out (by kernel_rfl)) (fun _ _ _ h => h) (Or.inl ⟨by rfl, ?_⟩) ?_ ?_
                  rotate_left
                  · intro w'
                    go_simp
                    with_reducible rfl
                  rotate_left
                  · simp only [Act.put, List.setIfInBounds_toArray, List.set_cons_zero, List.set_cons_succ, i64_w, i32_w]
                    rfl
                  refine pure_ (i := 18) (N := some 75) (v := ?_) (a' := ?_) (M.tf [19, 20]) rfl rfl (any_of HT_.out (by kernel_rfl)) (fun _ _ _ h => h) (Or.inl ⟨by rfl, ?_⟩) ?_ ?_
                  rotate_left
                  · intro w'
                    go_simp
                    with_reducible rfl
                  rotate_left
                  · simp only [Act.put, List.setIfInBounds_toArray, List.set_cons_zero, List.set_cons_succ, i64_w, i32_w]
                    rfl
                  refine pure_ (i := 20) (N := some 77) (v := ?_) (a' := ?_) (M.tf [19, 1, 1, 18]) rfl rfl (any_of HT_.out (by kernel_rfl)) (fun _ _ _ h => h) (Or.inl ⟨by rfl, ?_⟩) ?_ ?_
                  rotate_left
                  · intro w'
                    go_simp
                    with_reducible rfl
                  rotate_left
                  · simp only [Act.put, List.setIfInBounds_toArray, List.set_cons_zero, List.set_cons_succ, i64_w, i32_w]
                    rfl
                  refine take_ (i := 19) (N := some 76) (v := ?_) (a' := ?_) (M.tf [21, 18]) rfl rfl (take_ofW HT_.out HW_.out (by kernel_rfl)) (fun _ _ _ h => h) (Or.inl ⟨by rfl, ?_⟩) hHeld ?_ ?_
                  rotate_left
                  · rintro w' ⟨s0, s1, s2, s3, s4, s5⟩
                    go_simp
                    with_reducible rfl
                  rotate_left
                  · simp only [Act.put, List.setIfInBounds_toArray, List.set_cons_zero, List.set_cons_succ, i64_w, i32_w]
                    rfl
                  refine take_ (i := 22) (N := some 79) (v := ?_) (a' := ?_) (M.tf [21, 1, 1, 16]) rfl rfl (take_ofW HT_.out HW_.out (by kernel_rfl)) (fun _ _ _ h => h) (Or.inl ⟨by rfl, ?_⟩) hHeld ?_ ?_
                  rotate_left
                  · rintro w' ⟨s0, s1, s2, s3, s4, s5⟩
                    go_simp
                    with_reducible rfl
                  rotate_left
                  · simp only [Act.put, List.setIfInBounds_toArray, List.set_cons_zero, List.set_cons_succ, i64_w, i32_w]
                    rfl
                  refine one_ (i := 21) (N := some 78) (M.tf [23, 16]) rfl rfl (one_of HT_.out (by kernel_rfl)) (by decide) (fun K hK => ?_)
                  refine goes_ Try.func12 (by kernel_rfl) rfl #[.agg #[.int .i64 a0_0, .slice A0_1 l0_1.length c0_1, .slice A0_2 l0_2.length c0_2], .string a2] (by rfl) rfl rfl (by (try simp only [List.map_toArray, List.map_cons, List.map_nil]); first | done | rfl | (simp only [List.length_drop, List.length_take]; rfl)) ?_
                  with_reducible refine (chunk_Twig.calls k1 a0_0 _ _ l0_1 _ _ l0_2 a2 t180 t181 t182 _ ?side1 ?side2 ?side3 ?side4 A34.out).mono ?_
                  (case side1 => exact M.cB HR0_1 HB)
                  (case side2 => exact HC0_1.out)
                  (case side3 => exact M.cB HR0_2 HB)
                  (case side4 => exact HC0_2.out)
                  rintro e w126 ⟨rfl, hb⟩
                  refine ⟨_, rfl, ?_⟩
                  have n0_ := M.roB HO170 hb
                  have n1_ := M.roB HO174 hb
                  have n2_ := M.bkB zae hb
                  have n3_ := M.bkB zaY hb
                  have n4_ := M.bkB zbi hb
                  have n5_ := M.upS HB hb
                  clear HO170 HO174 zae zaY zbi HB
                  have HO170 := n0_
                  have HO174 := n1_
                  have zae := n2_
                  have zaY := n3_
                  have zbi := n4_
                  have HB := n5_
                  clear n0_ n1_ n2_ n3_ n4_ n5_
                  (try clear hb)
                  (try clear hb2)
                  (try clear hk)
                  (try clear hi)
                  refine hK.out _ _ ⟨(blk_cell zae.out 0).trans rfl, (blk_cell zae.out 1).trans rfl, (blk_cell zae.out 2).trans rfl, (blk_cell zaY.out 0).trans rfl, (blk_cell zaY.out 1).trans rfl, (blk_cell zaY.out 2).trans rfl⟩ (fun hHeld => ?_)
                  clear hK K
                  refine norm_ (a' := ?_) ?_ ?_
                  rotate_left
                  · show Act.put _ (some 78) _ = _
                    simp only [Act.put, List.setIfInBounds_toArray, List.set_cons_zero, List.set_cons_succ, i64_w, i32_w]
                    rfl
                  refine pure_ (i := 23) (N := some 80) (v := ?_) (a' := ?_) (M.tf [24, 15]) rfl rfl (any_of HT_.out (by kernel_rfl)) (fun _ _ _ h => h) (Or.inl ⟨by rfl, ?_⟩) ?_ ?_
                  rotate_left
                  · intro w'
                    go_simp
                    with_reducible rfl
                  rotate_left
                  · simp only [Act.put, List.setIfInBounds_toArray, List.set_cons_zero, List.set_cons_succ, i64_w, i32_w]
                    rfl
                  refine pure_ (i := 24) (N := some 81) (v := ?_) (a' := ?_) (M.tf [25, 14]) rfl rfl (any_of HT_.out (by kernel_rfl)) (fun _ _ _ h => h) (Or.inl ⟨by rfl, ?_⟩) ?_ ?_
                  rotate_left
                  · intro w'
                    go_simp
                    with_reducible rfl
                  rotate_left
                  · simp only [Act.put, List.setIfInBounds_toArray, List.set_cons_zero, List.set_cons_succ, i64_w, i32_w]
                    rfl
                  refine pure_ (i := 25) (N := some 82) (v := ?_) (a' := ?_) (M.tf [26, 13]) rfl rfl (any_of HT_.out (by kernel_rfl)) (fun _ _ _ h => h) (Or.inl ⟨by rfl, ?_⟩) ?_ ?_
                  rotate_left
                  · intro w'
                    go_simp
                    with_reducible rfl
                  rotate_left
                  · simp only [Act.put, List.setIfInBounds_toArray, List.set_cons_zero, List.set_cons_succ, i64_w, i32_w]
                    rfl
                  refine pure_ (i := 26) (N := some 83) (v := undef) (a' := ?_) (M.tf [27, 12]) rfl rfl (any_of HT_.out (by kernel_rfl)) (fun _ _ _ h => h) (Or.inr ⟨by rfl, rfl⟩) ?_ ?_
                  rotate_left
                  · simp only [Act.put, List.setIfInBounds_toArray, List.set_cons_zero, List.set_cons_succ, i64_w, i32_w]
                    rfl
                  refine pure_ (i := 27) (N := some 84) (v := undef) (a' := ?_) (M.tf [28, 11]) rfl rfl (any_of HT_.out (by kernel_rfl)) (fun _ _ _ h => h) (Or.inr ⟨by rfl, rfl⟩) ?_ ?_
                  rotate_left
                  · simp only [Act.put, List.setIfInBounds_toArray, List.set_cons_zero, List.set_cons_succ, i64_w, i32_w]
                    rfl
                  refine pure_ (i := 28) (N := some 85) (v := undef) (a' := ?_) (M.tf [29, 10]) rfl rfl (any_of HT_.out (by kernel_rfl)) (fun _ _ _ h => h) (Or.inr ⟨by rfl, rfl⟩) ?_ ?_
                  rotate_left
                  · simp only [Act.put, List.setIfInBounds_toArray, List.set_cons_zero, List.set_cons_succ, i64_w, i32_w]
                    rfl
                  refine pure_ (i := 29) (N := some 86) (v := undef) (a' := ?_) (M.tf [30, 9]) rfl rfl (any_of HT_.out (by kernel_rfl)) (fun _ _ _ h => h) (Or.inr ⟨by rfl, rfl⟩) ?_ ?_
                  rotate_left
                  · simp only [Act.put, List.setIfInBounds_toArray, List.set_cons_zero, List.set_cons_succ, i64_w, i32_w]
                    rfl
                  refine pure_ (i := 30) (N := some 87) (v := undef) (a' := ?_) (M.tf [31, 8]) rfl rfl (any_of HT_.out (by kernel_rfl)) (fun _ _ _ h => h) (Or.inr ⟨by rfl, rfl⟩) ?_ ?_
                  rotate_left
                  · simp only [Act.put, List.setIfInBounds_toArray, List.set_cons_zero, List.set_cons_succ, i64_w, i32_w]
                    rfl
                  refine pure_ (i := 31) (N := some 88) (v := undef) (a' := ?_) (M.tf [32, 7]) rfl rfl (any_of HT_.out (by kernel_rfl)) (fun _ _ _ h => h) (Or.inr ⟨by rfl, rfl⟩) ?_ ?_
                  rotate_left
                  · simp only [Act.put, List.setIfInBounds_toArray, List.set_cons_zero, List.set_cons_succ, i64_w, i32_w]
                    rfl
                  refine pure_ (i := 32) (N := some 89) (v := undef) (a' := ?_) (M.tf [33, 6]) rfl rfl (any_of HT_.out (by kernel_rfl)) (fun _ _ _ h => h) (Or.inr ⟨by rfl, rfl⟩) ?_ ?_
                  rotate_left
                  · simp only [Act.put, List.setIfInBounds_toArray, List.set_cons_zero, List.set_cons_succ, i64_w, i32_w]
                    rfl
                  refine pure_ (i := 33) (N := some 90) (v := undef) (a' := ?_) (M.tf [34, 5]) rfl rfl (any_of HT_.out (by kernel_rfl)) (fun _ _ _ h => h) (Or.inr ⟨by rfl, rfl⟩) ?_ ?_
                  rotate_left
                  · simp only [Act.put, List.setIfInBounds_toArray, List.set_cons_zero, List.set_cons_succ, i64_w, i32_w]
                    rfl
                  refine pure_ (i := 34) (N := some 91) (v := ?_) (a' := ?_) (M.tf [35, 4]) rfl rfl (any_of HT_.out (by kernel_rfl)) (fun _ _ _ h => h) (Or.inl ⟨by rfl, ?_⟩) ?_ ?_
                  rotate_left
                  · intro w'
                    go_simp
                    with_reducible rfl
                  rotate_left
                  · simp only [Act.put, List.setIfInBounds_toArray, List.set_cons_zero, List.set_cons_succ, i64_w, i32_w]
                    rfl
                  refine pure_ (i := 35) (N := some 92) (v := ?_) (a' := ?_) (M.tf [36, 3]) rfl rfl (any_of HT_.out (by kernel_rfl)) (fun _ _ _ h => h) (Or.inl ⟨by rfl, ?_⟩) ?_ ?_
                  rotate_left
                  · intro w'
                    go_simp
                    with_reducible rfl
                  rotate_left
                  · simp only [Act.put, List.setIfInBounds_toArray, List.set_cons_zero, List.set_cons_succ, i64_w, i32_w]
                    rfl
                  refine pure_ (i := 36) (N := some 93) (v := undef) (a' := ?_) (M.tf [37, 2]) rfl rfl (any_of HT_.out (by kernel_rfl)) (fun _ _ _ h => h) (Or.inr ⟨by rfl, rfl⟩) ?_ ?_
                  rotate_left
                  · simp only [Act.put, List.setIfInBounds_toArray, List.set_cons_zero, List.set_cons_succ, i64_w, i32_w]
                    rfl
                  refine pure_ (i := 37) (N := some 94) (v := ?_) (a' := ?_) (M.tf [38, 1]) rfl rfl (any_of HT_.out (by kernel_rfl)) (fun _ _ _ h => h) (Or.inl ⟨by rfl, ?_⟩) ?_ ?_
                  rotate_left
                  · intro w'
                    go_simp
                    with_reducible rfl
                  rotate_left
                  · simp only [Act.put, List.setIfInBounds_toArray, List.set_cons_zero, List.set_cons_succ, i64_w, i32_w]
                    rfl
                  refine pure_ (i := 38) (N := some 8) (v := ?_) (a' := ?_) (M.tf [39]) rfl rfl (any_of HT_.out (by kernel_rfl)) (fun _ _ _ h => h) (Or.inl ⟨by rfl, ?_⟩) ?_ ?_
                  rotate_left
                  · intro w'
                    go_simp
                    with_reducible rfl
                  rotate_left
                  · simp only [Act.put, List.setIfInBounds_toArray, List.set_cons_zero, List.set_cons_succ, i64_w, i32_w]
                    rfl
                  refine done_ (done_of HT_.out (by kernel_rfl)) ?_
                  try go_wp2
                  go_ret
                  exact M.fin (M.up HB)
              · rw [if_neg c33] at H
                have c33b0 : (t179 == x9_1) = false := beq_eq_false_iff_ne.mpr c33
                have c33b1 : (t179 != x9_1) = true := bne_iff_ne.mpr c33
                obtain rfl := Option.some.inj H
                obtain ⟨zcx, zcy, zcz⟩ := M.bc3 (w := wr) (a := .int .i64 a0_0) (b := .slice A0_1 l0_1.length c0_1) (c := .slice A0_2 l0_2.length c0_2) zae.out
                obtain ⟨zcA, zcB, zcC⟩ := M.bf3 zae
                try go_wp2_with (first | ((with_reducible refine gate_callee (f := 8) rfl ?_); refine M.goes (some 44) Try.func8 #[.agg #[.int .i64 a0_0, .slice A0_1 l0_1.length c0_1, .slice A0_2 l0_2.length c0_2]] rfl ?_; (with_reducible refine (pleachref19_Total.calls k1 a0_0 _ _ l0_1 _ _ l0_2 t166 _ ?side1 ?side2 ?side3 ?side4 A25.out).mono ?_); (case side1 => exact M.cB HR0_1 HB); (case side2 => exact HC0_1.out); (case side3 => exact M.cB HR0_2 HB); (case side4 => exact HC0_2.out); rintro e w128 ⟨rfl, hb⟩; refine ⟨_, rfl, ?_⟩; have n0_ := M.bkB zae hb; have n1_ := M.upS HB hb; clear zae HB; have zae := n0_; have HB := n1_; clear n0_ n1_; (try clear hb)) | ((with_reducible refine gate_dst (N := 13) rfl ?_); (try (refine gate_guard (by rfl) ?_; dsimp only)); refine box_event ?hg (N := 13) ?hd (cs := #[.string (⟨#[]⟩ : ByteArray), .string (⟨#[]⟩ : ByteArray), .int .i64 0]) (t := 32) ?hr ?_; (case hd => rfl); (case hg => rfl); (case hr => first | (go_simp; done) | (go_simp; rfl)); intro zaX hg w129 hbox hb; have n0_ := M.bkB zae hb; have n1_ := M.upS HB hb; have n2_ := Aside0.mk (hbox); have n3_ := M.upG HB hg; have n4_ := M.upG HB hg; have n5_ := M.bkL zae hg; have n6_ := M.bkG zae hg; clear zae HB; have zae := n0_; have HB := n1_; have zaY := n2_; have zaZ := n3_; have za0 := n4_; have za1 := n5_; have za2 := n6_; clear n0_ n1_ n2_ n3_ n4_ n5_ n6_; clear hb hbox hg; have zcD := za2.out; have zcE := za1.out; obtain ⟨zcF, zcG, zcH⟩ := M.bc3 (w := w129) (a := .string (⟨#[]⟩ : ByteArray)) (b := .string (⟨#[]⟩ : ByteArray)) (c := .int .i64 0) zaY.out; obtain ⟨zcI, zcJ, zcK⟩ := M.bf3 zaY) | ((with_reducible refine gate_dst (N := 52) rfl ?_); (try (refine gate_guard (by rfl) ?_; dsimp only)); refine Kd.R_lit k29 _ 29 ?hg (N := 52) ?hd (xs := ([(⟨x10_1, a2⟩ : S29), (⟨a1, (⟨#[120]⟩ : ByteArray)⟩ : S29)] : List (S29))) (inner := [.string x10_1, .string a2, .string a1, .string (⟨#[120]⟩ : ByteArray)]) (ok := fun _ => True) (okp := fun _ => True) ?hr ?hp (fun _ hk => hk) trivial (Below.refl _ _) (Nat.le_refl _) (by simp) ?_; (case hd => rfl); (case hg => rfl); (case hr => first | (go_simp; done) | (go_simp; rfl)); (case hp => exact (Reps.c2 (show Kd.M k29 _ _ _ (⟨x10_1, a2⟩ : S29) [.string x10_1, .string a2] from (k29_mkM _ _ _ (⟨x10_1, a2⟩ : S29) )) (Reps.c2 (show Kd.M k29 _ _ _ (⟨a1, (⟨#[120]⟩ : ByteArray)⟩ : S29) [.string a1, .string (⟨#[120]⟩ : ByteArray)] from (k29_mkM _ _ _ (⟨a1, (⟨#[120]⟩ : ByteArray)⟩ : S29) )) (Reps.none _ _)))); intro v169 w132 ho133 hb hg_ hnew_; clear hg_ hnew_; (first | rw [← Ny168.out] at ho133 | (simp only [Int.reduceToNat] at ho133; rw [← Ny168.out] at ho133)); have n0_ := Aside0.mk (Kd.R_lower ho133 (below_size (M.up HB))); have n1_ := Aside0.mk (blk_below (g := zad) (o := .cells #[.int .i64 a0_0, .slice A0_1 l0_1.length c0_1, .slice A0_2 l0_2.length c0_2] 25 (0, 0)) (by (with_reducible repeat (first | refine blk_drewN ?_ _ | refine blk_drew ?_ | refine blk_alloc ?_ _)); refine blk_far ?_ za1.out _; (with_reducible repeat (first | refine blk_drewN ?_ _ | refine blk_drew ?_ | refine blk_alloc ?_ _)); refine blk_far ?_ za1.out _; (with_reducible repeat (first | refine blk_drewN ?_ _ | refine blk_drew ?_ | refine blk_alloc ?_ _)); refine blk_far ?_ za1.out _; (with_reducible repeat (first | refine blk_drewN ?_ _ | refine blk_drew ?_ | refine blk_alloc ?_ _)); exact zae.out) hb); have n2_ := Aside0.mk (blk_below (g := zaX) (o := .cells #[.string x10_1, .string a2, .int .i64 t166] 32 (0, 0)) (by (with_reducible repeat (first | refine blk_drewN ?_ _ | refine blk_drew ?_ | refine blk_alloc ?_ _)); refine blk_put (cs := #[.string x10_1, .string a2, .int .i64 0]) ?_ 2 _ rfl; (with_reducible repeat (first | refine blk_drewN ?_ _ | refine blk_drew ?_ | refine blk_alloc ?_ _)); refine blk_put (cs := #[.string x10_1, .string (⟨#[]⟩ : ByteArray), .int .i64 0]) ?_ 1 _ rfl; (with_reducible repeat (first | refine blk_drewN ?_ _ | refine blk_drew ?_ | refine blk_alloc ?_ _)); refine blk_put (cs := #[.string (⟨#[]⟩ : ByteArray), .string (⟨#[]⟩ : ByteArray), .int .i64 0]) ?_ 0 _ rfl; (with_reducible repeat (first | refine blk_drewN ?_ _ | refine blk_drew ?_ | refine blk_alloc ?_ _)); exact zaY.out) hb); have n3_ := M.upS HB hb; clear zae zaY HB; have HO170 := n0_; have zae := n1_; have zaY := n2_; have HB := n3_; clear n0_ n1_ n2_ n3_; clear hb ho133; obtain ⟨zcL, zcM, zcN⟩ := M.bc3 (w := w132) (a := .int .i64 a0_0) (b := .slice A0_1 l0_1.length c0_1) (c := .slice A0_2 l0_2.length c0_2) zae.out; obtain ⟨zcO, zcP, zcQ⟩ := M.bf3 zae) | ((with_reducible refine gate_callee (f := 8) rfl ?_); refine M.goes (some 54) Try.func8 #[.agg #[.int .i64 a0_0, .slice A0_1 l0_1.length c0_1, .slice A0_2 l0_2.length c0_2]] rfl ?_; (with_reducible refine (pleachref19_Total.calls k1 a0_0 _ _ l0_1 _ _ l0_2 t171 _ ?side1 ?side2 ?side3 ?side4 A26.out).mono ?_); (case side1 => exact M.cB HR0_1 HB); (case side2 => exact HC0_1.out); (case side3 => exact M.cB HR0_2 HB); (case side4 => exact HC0_2.out); rintro e w135 ⟨rfl, hb⟩; refine ⟨_, rfl, ?_⟩; have n0_ := M.roB HO170 hb; have n1_ := M.bkB zae hb; have n2_ := M.bkB zaY hb; have n3_ := M.upS HB hb; clear HO170 zae zaY HB; have HO170 := n0_; have zae := n1_; have zaY := n2_; have HB := n3_; clear n0_ n1_ n2_ n3_; (try clear hb)) | ((with_reducible refine gate_dst (N := 55) rfl ?_); (try (refine gate_guard (by rfl) ?_; dsimp only)); refine Kd.R_lit (Kd.int .i64) _ 3 ?hg (N := 55) ?hd (xs := ([t171, 3] : List Int)) (inner := [.int .i64 t171, .int .i64 3]) (ok := fun _ => True) (okp := fun _ => True) ?hr ?hp (fun _ hk => hk) trivial (Below.refl _ _) (Nat.le_refl _) (by simp) ?_; (case hd => rfl); (case hg => rfl); (case hr => first | (go_simp; done) | (go_simp; rfl)); (case hp => exact (Reps.one (show Kd.M (Kd.int .i64) _ _ _ t171 [.int .i64 t171] from rfl) (Reps.one (show Kd.M (Kd.int .i64) _ _ _ 3 [.int .i64 3] from rfl) (Reps.none _ _)))); intro v173 w136 ho137 hb hg_ hnew_; clear hg_ hnew_; (first | rw [← Ny172.out] at ho137 | (simp only [Int.reduceToNat] at ho137; rw [← Ny172.out] at ho137)); have n0_ := M.roB HO170 hb; have n1_ := Aside0.mk (Kd.R_lower ho137 (below_size (M.up HB))); have n2_ := M.bkB zae hb; have n3_ := M.bkB zaY hb; have n4_ := M.upS HB hb; clear HO170 zae zaY HB; have HO170 := n0_; have HO174 := n1_; have zae := n2_; have zaY := n3_; have HB := n4_; clear n0_ n1_ n2_ n3_ n4_; clear hb ho137; obtain ⟨Ao138, co138, eo138⟩ := Kd.R_slice HO174.out; subst eo138; obtain ⟨Ao139, co139, eo139⟩ := Kd.R_slice HO170.out; subst eo139) | ((with_reducible refine gate_dst (N := 14) rfl ?_); (try (refine gate_guard (by rfl) ?_; dsimp only)); refine box_event ?hg (N := 14) ?hd (cs := #[.int .i64 0, .slice none 0 0, .slice none 0 0]) (t := 25) ?hr ?_; (case hd => rfl); (case hg => rfl); (case hr => first | (go_simp; done) | (go_simp; rfl)); intro zbh hg w140 hbox hb; have n0_ := M.roB HO170 hb; have n1_ := M.roB HO174 hb; have n2_ := M.bkB zae hb; have n3_ := M.bkB zaY hb; have n4_ := M.upS HB hb; have n5_ := Aside0.mk (hbox); have n6_ := M.upG HB hg; have n7_ := M.upG HB hg; have n8_ := M.bkL zae hg; have n9_ := M.bkG zae hg; have n10_ := M.bkL zaY hg; have n11_ := M.bkG zaY hg; clear HO170 HO174 zae zaY HB; have HO170 := n0_; have HO174 := n1_; have zae := n2_; have zaY := n3_; have HB := n4_; have zbi := n5_; have zbj := n6_; have zbk := n7_; have zbl := n8_; have zbm := n9_; have zbn := n10_; have zbo := n11_; clear n0_ n1_ n2_ n3_ n4_ n5_ n6_ n7_ n8_ n9_ n10_ n11_; clear hb hbox hg; have zcR := zbm.out; have zcS := zbl.out; have zcT := zbo.out; have zcU := zbn.out; obtain ⟨zcV, zcW, zcX⟩ := M.bc3 (w := w140) (a := .int .i64 0) (b := .slice none 0 0) (c := .slice none 0 0) zbi.out; obtain ⟨zcY, zcZ, zc0⟩ := M.bf3 zbi))
                have n0_ : Aside0 (Kd.R k29 29 (((w140.setCell ⟨zbh, 0, none⟩ (.int .i64 a3)).setCell ⟨zbh, 1, none⟩ (.slice Ao139 y168.length co139)).setCell ⟨zbh, 2, none⟩ (.slice Ao138 y172.length co138)) w.heap.size (fun _ => True) (.slice Ao139 y168.length co139) y168) := ⟨by (with_reducible repeat (first | apply Kd.R_alloc | apply Kd.R_drewN | apply Kd.R_drew)); exact Kd.R_mono (Kd.R_far (p := ⟨zbh, 2, none⟩) (Kd.R_far (p := ⟨zbh, 1, none⟩) (Kd.R_far (p := ⟨zbh, 0, none⟩) (Kd.R_types HO170.out zbi.out (by decide)) (fun _ hk => hk.2) (.int .i64 a3)) (fun _ hk => hk.2) (.slice Ao139 y168.length co139)) (fun _ hk => hk.2) (.slice Ao138 y172.length co138)) (fun _ hk => trivial)⟩
                have n1_ : Aside0 (Kd.R (Kd.int .i64) 3 (((w140.setCell ⟨zbh, 0, none⟩ (.int .i64 a3)).setCell ⟨zbh, 1, none⟩ (.slice Ao139 y168.length co139)).setCell ⟨zbh, 2, none⟩ (.slice Ao138 y172.length co138)) w.heap.size (fun _ => True) (.slice Ao138 y172.length co138) y172) := ⟨by (with_reducible repeat (first | apply Kd.R_alloc | apply Kd.R_drewN | apply Kd.R_drew)); exact Kd.R_mono (Kd.R_far (p := ⟨zbh, 2, none⟩) (Kd.R_far (p := ⟨zbh, 1, none⟩) (Kd.R_far (p := ⟨zbh, 0, none⟩) (Kd.R_types HO174.out zbi.out (by decide)) (fun _ hk => hk.2) (.int .i64 a3)) (fun _ hk => hk.2) (.slice Ao139 y168.length co139)) (fun _ hk => hk.2) (.slice Ao138 y172.length co138)) (fun _ hk => trivial)⟩
                have n2_ : Aside0 ((((w140.setCell ⟨zbh, 0, none⟩ (.int .i64 a3)).setCell ⟨zbh, 1, none⟩ (.slice Ao139 y168.length co139)).setCell ⟨zbh, 2, none⟩ (.slice Ao138 y172.length co138)).heap[zad]? = some (.cells #[.int .i64 a0_0, .slice A0_1 l0_1.length c0_1, .slice A0_2 l0_2.length c0_2] 25 (0, 0))) := ⟨by (with_reducible repeat (first | refine blk_drewN ?_ _ | refine blk_drew ?_ | refine blk_alloc ?_ _)); refine blk_far ?_ zbl.out _; (with_reducible repeat (first | refine blk_drewN ?_ _ | refine blk_drew ?_ | refine blk_alloc ?_ _)); refine blk_far ?_ zbl.out _; (with_reducible repeat (first | refine blk_drewN ?_ _ | refine blk_drew ?_ | refine blk_alloc ?_ _)); refine blk_far ?_ zbl.out _; (with_reducible repeat (first | refine blk_drewN ?_ _ | refine blk_drew ?_ | refine blk_alloc ?_ _)); exact zae.out⟩
                have n3_ : Aside0 ((((w140.setCell ⟨zbh, 0, none⟩ (.int .i64 a3)).setCell ⟨zbh, 1, none⟩ (.slice Ao139 y168.length co139)).setCell ⟨zbh, 2, none⟩ (.slice Ao138 y172.length co138)).heap[zaX]? = some (.cells #[.string x10_1, .string a2, .int .i64 t166] 32 (0, 0))) := ⟨by (with_reducible repeat (first | refine blk_drewN ?_ _ | refine blk_drew ?_ | refine blk_alloc ?_ _)); refine blk_far ?_ zbn.out _; (with_reducible repeat (first | refine blk_drewN ?_ _ | refine blk_drew ?_ | refine blk_alloc ?_ _)); refine blk_far ?_ zbn.out _; (with_reducible repeat (first | refine blk_drewN ?_ _ | refine blk_drew ?_ | refine blk_alloc ?_ _)); refine blk_far ?_ zbn.out _; (with_reducible repeat (first | refine blk_drewN ?_ _ | refine blk_drew ?_ | refine blk_alloc ?_ _)); exact zaY.out⟩
                have n4_ : Aside0 ((((w140.setCell ⟨zbh, 0, none⟩ (.int .i64 a3)).setCell ⟨zbh, 1, none⟩ (.slice Ao139 y168.length co139)).setCell ⟨zbh, 2, none⟩ (.slice Ao138 y172.length co138)).heap[zbh]? = some (.cells #[.int .i64 a3, .slice Ao139 y168.length co139, .slice Ao138 y172.length co138] 25 (0, 0))) := ⟨by (with_reducible repeat (first | refine blk_drewN ?_ _ | refine blk_drew ?_ | refine blk_alloc ?_ _)); refine blk_put (cs := #[.int .i64 a3, .slice Ao139 y168.length co139, .slice none 0 0]) ?_ 2 _ rfl; (with_reducible repeat (first | refine blk_drewN ?_ _ | refine blk_drew ?_ | refine blk_alloc ?_ _)); refine blk_put (cs := #[.int .i64 a3, .slice none 0 0, .slice none 0 0]) ?_ 1 _ rfl; (with_reducible repeat (first | refine blk_drewN ?_ _ | refine blk_drew ?_ | refine blk_alloc ?_ _)); refine blk_put (cs := #[.int .i64 0, .slice none 0 0, .slice none 0 0]) ?_ 0 _ rfl; (with_reducible repeat (first | refine blk_drewN ?_ _ | refine blk_drew ?_ | refine blk_alloc ?_ _)); exact zbi.out⟩
                have n5_ : Aside0 (Below w.heap.size w (((w140.setCell ⟨zbh, 0, none⟩ (.int .i64 a3)).setCell ⟨zbh, 1, none⟩ (.slice Ao139 y168.length co139)).setCell ⟨zbh, 2, none⟩ (.slice Ao138 y172.length co138))) := ⟨M.up HB⟩
                (try clear HO170)
                (try clear HO174)
                (try clear zae)
                (try clear zaY)
                (try clear zbi)
                (try clear HB)
                generalize (((w140.setCell ⟨zbh, 0, none⟩ (.int .i64 a3)).setCell ⟨zbh, 1, none⟩ (.slice Ao139 y168.length co139)).setCell ⟨zbh, 2, none⟩ (.slice Ao138 y172.length co138)) = w144 at n0_ n1_ n2_ n3_ n4_ n5_ ⊢
                have HO170 := n0_
                have HO174 := n1_
                have zae := n2_
                have zaY := n3_
                have zbi := n4_
                have HB := n5_
                clear n0_ n1_ n2_ n3_ n4_ n5_
                have n0_ := Aside0.mk (Kd.R_drew HO170.out)
                have n1_ := Aside0.mk (Kd.R_drew HO174.out)
                have n2_ := Aside0.mk (blk_drew zae.out)
                have n3_ := Aside0.mk (blk_drew zaY.out)
                have n4_ := Aside0.mk (blk_drew zbi.out)
                have n5_ := Aside0.mk (below_drew1 HB.out)
                clear HO170 HO174 zae zaY zbi HB
                have HO170 := n0_
                have HO174 := n1_
                have zae := n2_
                have zaY := n3_
                have zbi := n4_
                have HB := n5_
                clear n0_ n1_ n2_ n3_ n4_ n5_
                refine start_ (n := 39) (S := fun w' => w'.cell? ⟨zad, 0, none⟩ = some (.int .i64 a0_0) ∧ w'.cell? ⟨zad, 1, none⟩ = some (.slice A0_1 l0_1.length c0_1) ∧ w'.cell? ⟨zad, 2, none⟩ = some (.slice A0_2 l0_2.length c0_2)) (ds := []) (M.tf [0, 39]) (by kernel_rfl) rfl rfl ⟨(blk_cell zae.out 0).trans rfl, (blk_cell zae.out 1).trans rfl, (blk_cell zae.out 2).trans rfl⟩ (fun hHeld => ?_); refine with_tabW pleachlaw19_ChunkTells.tab13 pleachlaw19_ChunkTells.bits13 (fun HT_ HW_ => ?_)
                generalize w144.drew = w145 at HO170 HO174 zae zaY zbi HB hHeld ⊢
                refine take_ (i := 0) (N := some 57) (v := ?_) (a' := ?_) (M.tf [1, 38]) rfl rfl (take_ofW HT_.out HW_.out (by kernel_rfl)) (fun _ _ _ h => h) (Or.inl ⟨by rfl, ?_⟩) hHeld ?_ ?_
                rotate_left
                · rintro w' ⟨s0, s1, s2⟩
                  go_simp
                  with_reducible rfl
                rotate_left
                · simp only [Act.put, List.setIfInBounds_toArray, List.set_cons_zero, List.set_cons_succ, i64_w, i32_w]
                  rfl
                refine take_ (i := 2) (N := some 59) (v := ?_) (a' := ?_) (M.tf [1, 1, 1, 36]) rfl rfl (take_ofW HT_.out HW_.out (by kernel_rfl)) (fun _ _ _ h => h) (Or.inl ⟨by rfl, ?_⟩) hHeld ?_ ?_
                rotate_left
                · rintro w' ⟨s0, s1, s2⟩
                  go_simp
                  with_reducible rfl
                rotate_left
                · simp only [Act.put, List.setIfInBounds_toArray, List.set_cons_zero, List.set_cons_succ, i64_w, i32_w]
                  rfl
                refine one_ (i := 1) (N := some 58) (M.tf [3, 36]) rfl rfl (one_of HT_.out (by kernel_rfl)) (by decide) (fun K hK => ?_)
                refine goes_ Try.func9 (by kernel_rfl) rfl #[.agg #[.int .i64 a0_0, .slice A0_1 l0_1.length c0_1, .slice A0_2 l0_2.length c0_2]] (by rfl) rfl rfl (by (try simp only [List.map_toArray, List.map_cons, List.map_nil]); first | done | rfl | (simp only [List.length_drop, List.length_take]; rfl)) ?_
                with_reducible refine (chunk_Total.calls k1 a0_0 _ _ l0_1 _ _ l0_2 t176 _ ?side1 ?side2 ?side3 ?side4 A27.out).mono ?_
                (case side1 => exact M.cB HR0_1 HB)
                (case side2 => exact HC0_1.out)
                (case side3 => exact M.cB HR0_2 HB)
                (case side4 => exact HC0_2.out)
                rintro e w146 ⟨rfl, hb⟩
                refine ⟨_, rfl, ?_⟩
                have n0_ := M.roB HO170 hb
                have n1_ := M.roB HO174 hb
                have n2_ := M.bkB zae hb
                have n3_ := M.bkB zaY hb
                have n4_ := M.bkB zbi hb
                have n5_ := M.upS HB hb
                clear HO170 HO174 zae zaY zbi HB
                have HO170 := n0_
                have HO174 := n1_
                have zae := n2_
                have zaY := n3_
                have zbi := n4_
                have HB := n5_
                clear n0_ n1_ n2_ n3_ n4_ n5_
                (try clear hb)
                (try clear hb2)
                (try clear hk)
                (try clear hi)
                refine hK.out _ _ ⟨(blk_cell zae.out 0).trans rfl, (blk_cell zae.out 1).trans rfl, (blk_cell zae.out 2).trans rfl⟩ (fun hHeld => ?_)
                clear hK K
                refine norm_ (a' := ?_) ?_ ?_
                rotate_left
                · show Act.put _ (some 58) _ = _
                  simp only [Act.put, List.setIfInBounds_toArray, List.set_cons_zero, List.set_cons_succ, i64_w, i32_w]
                  rfl
                refine one_ (i := 3) (N := some 60) (M.tf [4, 35]) rfl rfl (one_of HT_.out (by kernel_rfl)) (by decide) (fun K hK => ?_)
                refine goes_ Try.func8 (by kernel_rfl) rfl #[.agg #[.int .i64 a0_0, .slice A0_1 l0_1.length c0_1, .slice A0_2 l0_2.length c0_2]] (by rfl) rfl rfl (by (try simp only [List.map_toArray, List.map_cons, List.map_nil]); first | done | rfl | (simp only [List.length_drop, List.length_take]; rfl)) ?_
                with_reducible refine (pleachref19_Total.calls k1 a0_0 _ _ l0_1 _ _ l0_2 t177 _ ?side1 ?side2 ?side3 ?side4 A28.out).mono ?_
                (case side1 => exact M.cB HR0_1 HB)
                (case side2 => exact HC0_1.out)
                (case side3 => exact M.cB HR0_2 HB)
                (case side4 => exact HC0_2.out)
                rintro e w147 ⟨rfl, hb⟩
                refine ⟨_, rfl, ?_⟩
                have n0_ := M.roB HO170 hb
                have n1_ := M.roB HO174 hb
                have n2_ := M.bkB zae hb
                have n3_ := M.bkB zaY hb
                have n4_ := M.bkB zbi hb
                have n5_ := M.upS HB hb
                clear HO170 HO174 zae zaY zbi HB
                have HO170 := n0_
                have HO174 := n1_
                have zae := n2_
                have zaY := n3_
                have zbi := n4_
                have HB := n5_
                clear n0_ n1_ n2_ n3_ n4_ n5_
                (try clear hb)
                (try clear hb2)
                (try clear hk)
                (try clear hi)
                refine hK.out _ _ ⟨(blk_cell zae.out 0).trans rfl, (blk_cell zae.out 1).trans rfl, (blk_cell zae.out 2).trans rfl⟩ (fun hHeld => ?_)
                clear hK K
                refine norm_ (a' := ?_) ?_ ?_
                rotate_left
                · show Act.put _ (some 60) _ = _
                  simp only [Act.put, List.setIfInBounds_toArray, List.set_cons_zero, List.set_cons_succ, i64_w, i32_w]
                  rfl
                refine pure_ (i := 4) (N := some 61) (v := ?_) (a' := ?_) (M.tf [5, 34]) rfl rfl (any_of HT_.out (by kernel_rfl)) (fun _ _ _ h => h) (Or.inl ⟨by rfl, ?_⟩) ?_ ?_
                rotate_left
                · intro w'
                  go_simp
                  with_reducible rfl
                rotate_left
                · simp only [Act.put, List.setIfInBounds_toArray, List.set_cons_zero, List.set_cons_succ, i64_w, i32_w]
                  rfl
                refine pure_ (i := 5) (N := some 62) (v := ?_) (a' := ?_) (M.tf [6, 33]) rfl rfl (any_of HT_.out (by kernel_rfl)) (fun _ _ _ h => h) (Or.inl ⟨by rfl, ?_⟩) ?_ ?_
                rotate_left
                · intro w'
                  go_simp
                  with_reducible rfl
                rotate_left
                · simp only [Act.put, List.setIfInBounds_toArray, List.set_cons_zero, List.set_cons_succ, i64_w, i32_w]
                  rfl
                refine pure_ (i := 8) (N := some 65) (v := ?_) (a' := ?_) (M.tf [6, 2, 1, 30]) rfl rfl (any_of HT_.out (by kernel_rfl)) (fun _ _ _ h => h) (Or.inl ⟨by rfl, ?_⟩) ?_ ?_
                rotate_left
                · intro w'
                  go_simp
                  with_reducible rfl
                rotate_left
                · simp only [Act.put, List.setIfInBounds_toArray, List.set_cons_zero, List.set_cons_succ, i64_w, i32_w]
                  rfl
                refine take_ (i := 6) (N := some 63) (v := ?_) (a' := ?_) (M.tf [7, 1, 1, 30]) rfl rfl (take_ofW HT_.out HW_.out (by kernel_rfl)) (fun _ _ _ h => h) (Or.inl ⟨by rfl, ?_⟩) hHeld ?_ ?_
                rotate_left
                · rintro w' ⟨s0, s1, s2⟩
                  go_simp
                  with_reducible rfl
                rotate_left
                · simp only [Act.put, List.setIfInBounds_toArray, List.set_cons_zero, List.set_cons_succ, i64_w, i32_w]
                  rfl
                refine one_ (i := 7) (N := some 64) (M.tf [9, 30]) rfl rfl (one_of HT_.out (by kernel_rfl)) (by decide) (fun K hK => ?_)
                refine goes_ Try.func10 (by kernel_rfl) rfl #[.agg #[.int .i64 a0_0, .slice A0_1 l0_1.length c0_1, .slice A0_2 l0_2.length c0_2]] (by rfl) rfl rfl (by (try simp only [List.map_toArray, List.map_cons, List.map_nil]); first | done | rfl | (simp only [List.length_drop, List.length_take]; rfl)) ?_
                with_reducible refine (chunk_Last.calls a0_0 _ _ l0_1 _ _ l0_2 t178 _ ?side1 ?side2 ?side3 ?side4 A30.out).mono ?_
                (case side1 => exact M.cB HR0_1 HB)
                (case side2 => exact HC0_1.out)
                (case side3 => exact M.cB HR0_2 HB)
                (case side4 => exact HC0_2.out)
                rintro e w148 ⟨rfl, hb⟩
                refine ⟨_, rfl, ?_⟩
                have n0_ := M.roB HO170 hb
                have n1_ := M.roB HO174 hb
                have n2_ := M.bkB zae hb
                have n3_ := M.bkB zaY hb
                have n4_ := M.bkB zbi hb
                have n5_ := M.upS HB hb
                clear HO170 HO174 zae zaY zbi HB
                have HO170 := n0_
                have HO174 := n1_
                have zae := n2_
                have zaY := n3_
                have zbi := n4_
                have HB := n5_
                clear n0_ n1_ n2_ n3_ n4_ n5_
                (try clear hb)
                (try clear hb2)
                (try clear hk)
                (try clear hi)
                refine hK.out _ _ ⟨(blk_cell zae.out 0).trans rfl, (blk_cell zae.out 1).trans rfl, (blk_cell zae.out 2).trans rfl⟩ (fun hHeld => ?_)
                clear hK K
                refine norm_ (a' := ?_) ?_ ?_
                rotate_left
                · show Act.put _ (some 64) _ = _
                  simp only [Act.put, List.setIfInBounds_toArray, List.set_cons_zero, List.set_cons_succ, i64_w, i32_w]
                  rfl
                refine pure_ (i := 9) (N := some 66) (v := ?_) (a' := ?_) (M.tf [10, 29]) rfl rfl (any_of HT_.out (by kernel_rfl)) (fun _ _ _ h => h) (Or.inl ⟨by rfl, ?_⟩) ?_ ?_
                rotate_left
                · intro w'
                  go_simp
                  with_reducible rfl
                rotate_left
                · simp only [Act.put, List.setIfInBounds_toArray, List.set_cons_zero, List.set_cons_succ, i64_w, i32_w]
                  rfl
                refine pure_ (i := 10) (N := some 67) (v := ?_) (a' := ?_) (M.tf [11, 28]) rfl rfl (any_of HT_.out (by kernel_rfl)) (fun _ _ _ h => h) (Or.inl ⟨by rfl, ?_⟩) ?_ ?_
                rotate_left
                · intro w'
                  go_simp
                  with_reducible rfl
                rotate_left
                · simp only [Act.put, List.setIfInBounds_toArray, List.set_cons_zero, List.set_cons_succ, i64_w, i32_w]
                  rfl
                refine pure_ (i := 11) (N := some 68) (v := ?_) (a' := ?_) (M.tf [12, 27]) rfl rfl (any_of HT_.out (by kernel_rfl)) (fun _ _ _ h => h) (Or.inl ⟨by rfl, ?_⟩) ?_ ?_
                rotate_left
                · intro w'
                  go_simp
                  with_reducible rfl
                rotate_left
                · simp only [Act.put, List.setIfInBounds_toArray, List.set_cons_zero, List.set_cons_succ, i64_w, i32_w]
                  rfl
                refine pure_ (i := 13) (N := some 70) (v := ?_) (a' := ?_) (M.tf [12, 1, 1, 25]) rfl rfl (any_of HT_.out (by kernel_rfl)) (fun _ _ _ h => h) (Or.inl ⟨by rfl, ?_⟩) ?_ ?_
                rotate_left
                · intro w'
                  go_simp
                  with_reducible rfl
                rotate_left
                · simp only [Act.put, List.setIfInBounds_toArray, List.set_cons_zero, List.set_cons_succ, i64_w, i32_w]
                  rfl
                refine pure_ (i := 15) (N := some 72) (v := ?_) (a' := ?_) (M.tf [12, 1, 1, 1, 1, 23]) rfl rfl (any_of HT_.out (by kernel_rfl)) (fun _ _ _ h => h) (Or.inl ⟨by rfl, ?_⟩) ?_ ?_
                rotate_left
                · intro w'
                  go_simp
                  with_reducible rfl
                rotate_left
                · simp only [Act.put, List.setIfInBounds_toArray, List.set_cons_zero, List.set_cons_succ, i64_w, i32_w]
                  rfl
                refine take_ (i := 12) (N := some 69) (v := ?_) (a' := ?_) (M.tf [14, 1, 1, 23]) rfl rfl (take_ofW HT_.out HW_.out (by kernel_rfl)) (fun _ _ _ h => h) (Or.inl ⟨by rfl, ?_⟩) hHeld ?_ ?_
                rotate_left
                · rintro w' ⟨s0, s1, s2⟩
                  go_simp
                  with_reducible rfl
                rotate_left
                · simp only [Act.put, List.setIfInBounds_toArray, List.set_cons_zero, List.set_cons_succ, i64_w, i32_w]
                  rfl
                refine one_ (i := 14) (N := some 71) (M.tf [16, 23]) rfl rfl (one_of HT_.out (by kernel_rfl)) (by decide) (fun K hK => ?_)
                refine goes_ Try.func11 (by kernel_rfl) rfl #[.agg #[.int .i64 a0_0, .slice A0_1 l0_1.length c0_1, .slice A0_2 l0_2.length c0_2], .string a1] (by rfl) rfl rfl (by (try simp only [List.map_toArray, List.map_cons, List.map_nil]); first | done | rfl | (simp only [List.length_drop, List.length_take]; rfl)) ?_
                with_reducible refine (chunk_Find.calls k1 a0_0 _ _ l0_1 _ _ l0_2 a1 t179 _ ?side1 ?side2 ?side3 ?side4 A32.out).mono ?_
                (case side1 => exact M.cB HR0_1 HB)
                (case side2 => exact HC0_1.out)
                (case side3 => exact M.cB HR0_2 HB)
                (case side4 => exact HC0_2.out)
                rintro e w149 ⟨rfl, hb⟩
                refine ⟨_, rfl, ?_⟩
                have n0_ := M.roB HO170 hb
                have n1_ := M.roB HO174 hb
                have n2_ := M.bkB zae hb
                have n3_ := M.bkB zaY hb
                have n4_ := M.bkB zbi hb
                have n5_ := M.upS HB hb
                clear HO170 HO174 zae zaY zbi HB
                have HO170 := n0_
                have HO174 := n1_
                have zae := n2_
                have zaY := n3_
                have zbi := n4_
                have HB := n5_
                clear n0_ n1_ n2_ n3_ n4_ n5_
                (try clear hb)
                (try clear hb2)
                (try clear hk)
                (try clear hi)
                refine hK.out _ _ ⟨(blk_cell zae.out 0).trans rfl, (blk_cell zae.out 1).trans rfl, (blk_cell zae.out 2).trans rfl⟩ (fun hHeld => ?_)
                clear hK K
                refine norm_ (a' := ?_) ?_ ?_
                rotate_left
                · show Act.put _ (some 71) _ = _
                  simp only [Act.put, List.setIfInBounds_toArray, List.set_cons_zero, List.set_cons_succ, i64_w, i32_w]
                  rfl
                refine pure_ (i := 16) (N := some 73) (v := ?_) (a' := ?_) (M.tf [17, 22]) rfl rfl (any_of HT_.out (by kernel_rfl)) (fun _ _ _ h => h) (Or.inl ⟨by rfl, ?_⟩) ?_ ?_
                rotate_left
                · intro w'
                  go_simp
                  with_reducible rfl
                rotate_left
                · simp only [Act.put, List.setIfInBounds_toArray, List.set_cons_zero, List.set_cons_succ, i64_w, i32_w]
                  rfl
                refine pure_ (i := 17) (N := some 74) (v := ?_) (a' := ?_) (M.tf [18, 21]) rfl rfl (any_of HT_.out (by kernel_rfl)) (fun _ _ _ h => h) (Or.inl ⟨by rfl, ?_⟩) ?_ ?_
                rotate_left
                · intro w'
                  go_simp
                  with_reducible rfl
                rotate_left
                · simp only [Act.put, List.setIfInBounds_toArray, List.set_cons_zero, List.set_cons_succ, i64_w, i32_w]
                  rfl
                refine pure_ (i := 18) (N := some 75) (v := ?_) (a' := ?_) (M.tf [19, 20]) rfl rfl (any_of HT_.out (by kernel_rfl)) (fun _ _ _ h => h) (Or.inl ⟨by rfl, ?_⟩) ?_ ?_
                rotate_left
                · intro w'
                  go_simp
                  with_reducible rfl
                rotate_left
                · simp only [Act.put, List.setIfInBounds_toArray, List.set_cons_zero, List.set_cons_succ, i64_w, i32_w]
                  rfl
                refine pure_ (i := 19) (N := some 76) (v := undef) (a' := ?_) (M.tf [20, 19]) rfl rfl (any_of HT_.out (by kernel_rfl)) (fun _ _ _ h => h) (Or.inr ⟨by rfl, rfl⟩) ?_ ?_
                rotate_left
                · simp only [Act.put, List.setIfInBounds_toArray, List.set_cons_zero, List.set_cons_succ, i64_w, i32_w]
                  rfl
                refine pure_ (i := 20) (N := some 77) (v := undef) (a' := ?_) (M.tf [21, 18]) rfl rfl (any_of HT_.out (by kernel_rfl)) (fun _ _ _ h => h) (Or.inr ⟨by rfl, rfl⟩) ?_ ?_
                rotate_left
                · simp only [Act.put, List.setIfInBounds_toArray, List.set_cons_zero, List.set_cons_succ, i64_w, i32_w]
                  rfl
                refine pure_ (i := 21) (N := some 78) (v := undef) (a' := ?_) (M.tf [22, 17]) rfl rfl (any_of HT_.out (by kernel_rfl)) (fun _ _ _ h => h) (Or.inr ⟨by rfl, rfl⟩) ?_ ?_
                rotate_left
                · simp only [Act.put, List.setIfInBounds_toArray, List.set_cons_zero, List.set_cons_succ, i64_w, i32_w]
                  rfl
                refine pure_ (i := 22) (N := some 79) (v := undef) (a' := ?_) (M.tf [23, 16]) rfl rfl (any_of HT_.out (by kernel_rfl)) (fun _ _ _ h => h) (Or.inr ⟨by rfl, rfl⟩) ?_ ?_
                rotate_left
                · simp only [Act.put, List.setIfInBounds_toArray, List.set_cons_zero, List.set_cons_succ, i64_w, i32_w]
                  rfl
                refine pure_ (i := 23) (N := some 80) (v := undef) (a' := ?_) (M.tf [24, 15]) rfl rfl (any_of HT_.out (by kernel_rfl)) (fun _ _ _ h => h) (Or.inr ⟨by rfl, rfl⟩) ?_ ?_
                rotate_left
                · simp only [Act.put, List.setIfInBounds_toArray, List.set_cons_zero, List.set_cons_succ, i64_w, i32_w]
                  rfl
                refine pure_ (i := 24) (N := some 81) (v := ?_) (a' := ?_) (M.tf [25, 14]) rfl rfl (any_of HT_.out (by kernel_rfl)) (fun _ _ _ h => h) (Or.inl ⟨by rfl, ?_⟩) ?_ ?_
                rotate_left
                · intro w'
                  go_simp
                  with_reducible rfl
                rotate_left
                · simp only [Act.put, List.setIfInBounds_toArray, List.set_cons_zero, List.set_cons_succ, i64_w, i32_w]
                  rfl
                refine pure_ (i := 25) (N := some 82) (v := ?_) (a' := ?_) (M.tf [26, 13]) rfl rfl (any_of HT_.out (by kernel_rfl)) (fun _ _ _ h => h) (Or.inl ⟨by rfl, ?_⟩) ?_ ?_
                rotate_left
                · intro w'
                  go_simp
                  with_reducible rfl
                rotate_left
                · simp only [Act.put, List.setIfInBounds_toArray, List.set_cons_zero, List.set_cons_succ, i64_w, i32_w]
                  rfl
                refine pure_ (i := 26) (N := some 83) (v := undef) (a' := ?_) (M.tf [27, 12]) rfl rfl (any_of HT_.out (by kernel_rfl)) (fun _ _ _ h => h) (Or.inr ⟨by rfl, rfl⟩) ?_ ?_
                rotate_left
                · simp only [Act.put, List.setIfInBounds_toArray, List.set_cons_zero, List.set_cons_succ, i64_w, i32_w]
                  rfl
                refine pure_ (i := 27) (N := some 84) (v := undef) (a' := ?_) (M.tf [28, 11]) rfl rfl (any_of HT_.out (by kernel_rfl)) (fun _ _ _ h => h) (Or.inr ⟨by rfl, rfl⟩) ?_ ?_
                rotate_left
                · simp only [Act.put, List.setIfInBounds_toArray, List.set_cons_zero, List.set_cons_succ, i64_w, i32_w]
                  rfl
                refine pure_ (i := 28) (N := some 85) (v := undef) (a' := ?_) (M.tf [29, 10]) rfl rfl (any_of HT_.out (by kernel_rfl)) (fun _ _ _ h => h) (Or.inr ⟨by rfl, rfl⟩) ?_ ?_
                rotate_left
                · simp only [Act.put, List.setIfInBounds_toArray, List.set_cons_zero, List.set_cons_succ, i64_w, i32_w]
                  rfl
                refine pure_ (i := 29) (N := some 86) (v := undef) (a' := ?_) (M.tf [30, 9]) rfl rfl (any_of HT_.out (by kernel_rfl)) (fun _ _ _ h => h) (Or.inr ⟨by rfl, rfl⟩) ?_ ?_
                rotate_left
                · simp only [Act.put, List.setIfInBounds_toArray, List.set_cons_zero, List.set_cons_succ, i64_w, i32_w]
                  rfl
                refine pure_ (i := 30) (N := some 87) (v := undef) (a' := ?_) (M.tf [31, 8]) rfl rfl (any_of HT_.out (by kernel_rfl)) (fun _ _ _ h => h) (Or.inr ⟨by rfl, rfl⟩) ?_ ?_
                rotate_left
                · simp only [Act.put, List.setIfInBounds_toArray, List.set_cons_zero, List.set_cons_succ, i64_w, i32_w]
                  rfl
                refine pure_ (i := 31) (N := some 88) (v := undef) (a' := ?_) (M.tf [32, 7]) rfl rfl (any_of HT_.out (by kernel_rfl)) (fun _ _ _ h => h) (Or.inr ⟨by rfl, rfl⟩) ?_ ?_
                rotate_left
                · simp only [Act.put, List.setIfInBounds_toArray, List.set_cons_zero, List.set_cons_succ, i64_w, i32_w]
                  rfl
                refine pure_ (i := 32) (N := some 89) (v := undef) (a' := ?_) (M.tf [33, 6]) rfl rfl (any_of HT_.out (by kernel_rfl)) (fun _ _ _ h => h) (Or.inr ⟨by rfl, rfl⟩) ?_ ?_
                rotate_left
                · simp only [Act.put, List.setIfInBounds_toArray, List.set_cons_zero, List.set_cons_succ, i64_w, i32_w]
                  rfl
                refine pure_ (i := 33) (N := some 90) (v := undef) (a' := ?_) (M.tf [34, 5]) rfl rfl (any_of HT_.out (by kernel_rfl)) (fun _ _ _ h => h) (Or.inr ⟨by rfl, rfl⟩) ?_ ?_
                rotate_left
                · simp only [Act.put, List.setIfInBounds_toArray, List.set_cons_zero, List.set_cons_succ, i64_w, i32_w]
                  rfl
                refine pure_ (i := 34) (N := some 91) (v := ?_) (a' := ?_) (M.tf [35, 4]) rfl rfl (any_of HT_.out (by kernel_rfl)) (fun _ _ _ h => h) (Or.inl ⟨by rfl, ?_⟩) ?_ ?_
                rotate_left
                · intro w'
                  go_simp
                  with_reducible rfl
                rotate_left
                · simp only [Act.put, List.setIfInBounds_toArray, List.set_cons_zero, List.set_cons_succ, i64_w, i32_w]
                  rfl
                refine pure_ (i := 35) (N := some 92) (v := ?_) (a' := ?_) (M.tf [36, 3]) rfl rfl (any_of HT_.out (by kernel_rfl)) (fun _ _ _ h => h) (Or.inl ⟨by rfl, ?_⟩) ?_ ?_
                rotate_left
                · intro w'
                  go_simp
                  with_reducible rfl
                rotate_left
                · simp only [Act.put, List.setIfInBounds_toArray, List.set_cons_zero, List.set_cons_succ, i64_w, i32_w]
                  rfl
                refine pure_ (i := 36) (N := some 93) (v := undef) (a' := ?_) (M.tf [37, 2]) rfl rfl (any_of HT_.out (by kernel_rfl)) (fun _ _ _ h => h) (Or.inr ⟨by rfl, rfl⟩) ?_ ?_
                rotate_left
                · simp only [Act.put, List.setIfInBounds_toArray, List.set_cons_zero, List.set_cons_succ, i64_w, i32_w]
                  rfl
                refine pure_ (i := 37) (N := some 94) (v := ?_) (a' := ?_) (M.tf [38, 1]) rfl rfl (any_of HT_.out (by kernel_rfl)) (fun _ _ _ h => h) (Or.inl ⟨by rfl, ?_⟩) ?_ ?_
                rotate_left
                · intro w'
                  go_simp
                  with_reducible rfl
                rotate_left
                · simp only [Act.put, List.setIfInBounds_toArray, List.set_cons_zero, List.set_cons_succ, i64_w, i32_w]
                  rfl
                refine pure_ (i := 38) (N := some 8) (v := ?_) (a' := ?_) (M.tf [39]) rfl rfl (any_of HT_.out (by kernel_rfl)) (fun _ _ _ h => h) (Or.inl ⟨by rfl, ?_⟩) ?_ ?_
                rotate_left
                · intro w'
                  go_simp
                  with_reducible rfl
                rotate_left
                · simp only [Act.put, List.setIfInBounds_toArray, List.set_cons_zero, List.set_cons_succ, i64_w, i32_w]
                  rfl
                refine done_ (done_of HT_.out (by kernel_rfl)) ?_
                try go_wp2
                go_ret
                exact M.fin (M.up HB)
            · rw [if_neg c31] at H
              have c31b0 : (t178.toList == x10_1.toList) = false := beq_eq_false_iff_ne.mpr c31
              have c31b1 : (t178.toList != x10_1.toList) = true := bne_iff_ne.mpr c31
              obtain rfl := Option.some.inj H
              obtain ⟨zc1, zc2, zc3⟩ := M.bc3 (w := wr) (a := .int .i64 a0_0) (b := .slice A0_1 l0_1.length c0_1) (c := .slice A0_2 l0_2.length c0_2) zae.out
              obtain ⟨zc4, zc5, zc6⟩ := M.bf3 zae
              try go_wp2_with (first | ((with_reducible refine gate_callee (f := 8) rfl ?_); refine M.goes (some 44) Try.func8 #[.agg #[.int .i64 a0_0, .slice A0_1 l0_1.length c0_1, .slice A0_2 l0_2.length c0_2]] rfl ?_; (with_reducible refine (pleachref19_Total.calls k1 a0_0 _ _ l0_1 _ _ l0_2 t166 _ ?side1 ?side2 ?side3 ?side4 A25.out).mono ?_); (case side1 => exact M.cB HR0_1 HB); (case side2 => exact HC0_1.out); (case side3 => exact M.cB HR0_2 HB); (case side4 => exact HC0_2.out); rintro e w151 ⟨rfl, hb⟩; refine ⟨_, rfl, ?_⟩; have n0_ := M.bkB zae hb; have n1_ := M.upS HB hb; clear zae HB; have zae := n0_; have HB := n1_; clear n0_ n1_; (try clear hb)) | ((with_reducible refine gate_dst (N := 13) rfl ?_); (try (refine gate_guard (by rfl) ?_; dsimp only)); refine box_event ?hg (N := 13) ?hd (cs := #[.string (⟨#[]⟩ : ByteArray), .string (⟨#[]⟩ : ByteArray), .int .i64 0]) (t := 32) ?hr ?_; (case hd => rfl); (case hg => rfl); (case hr => first | (go_simp; done) | (go_simp; rfl)); intro zaX hg w152 hbox hb; have n0_ := M.bkB zae hb; have n1_ := M.upS HB hb; have n2_ := Aside0.mk (hbox); have n3_ := M.upG HB hg; have n4_ := M.upG HB hg; have n5_ := M.bkL zae hg; have n6_ := M.bkG zae hg; clear zae HB; have zae := n0_; have HB := n1_; have zaY := n2_; have zaZ := n3_; have za0 := n4_; have za1 := n5_; have za2 := n6_; clear n0_ n1_ n2_ n3_ n4_ n5_ n6_; clear hb hbox hg; have zc7 := za2.out; have zc8 := za1.out; obtain ⟨zc9, zda, zdb⟩ := M.bc3 (w := w152) (a := .string (⟨#[]⟩ : ByteArray)) (b := .string (⟨#[]⟩ : ByteArray)) (c := .int .i64 0) zaY.out; obtain ⟨zdc, zdd, zde⟩ := M.bf3 zaY) | ((with_reducible refine gate_dst (N := 52) rfl ?_); (try (refine gate_guard (by rfl) ?_; dsimp only)); refine Kd.R_lit k29 _ 29 ?hg (N := 52) ?hd (xs := ([(⟨x10_1, a2⟩ : S29), (⟨a1, (⟨#[120]⟩ : ByteArray)⟩ : S29)] : List (S29))) (inner := [.string x10_1, .string a2, .string a1, .string (⟨#[120]⟩ : ByteArray)]) (ok := fun _ => True) (okp := fun _ => True) ?hr ?hp (fun _ hk => hk) trivial (Below.refl _ _) (Nat.le_refl _) (by simp) ?_; (case hd => rfl); (case hg => rfl); (case hr => first | (go_simp; done) | (go_simp; rfl)); (case hp => exact (Reps.c2 (show Kd.M k29 _ _ _ (⟨x10_1, a2⟩ : S29) [.string x10_1, .string a2] from (k29_mkM _ _ _ (⟨x10_1, a2⟩ : S29) )) (Reps.c2 (show Kd.M k29 _ _ _ (⟨a1, (⟨#[120]⟩ : ByteArray)⟩ : S29) [.string a1, .string (⟨#[120]⟩ : ByteArray)] from (k29_mkM _ _ _ (⟨a1, (⟨#[120]⟩ : ByteArray)⟩ : S29) )) (Reps.none _ _)))); intro v169 w155 ho156 hb hg_ hnew_; clear hg_ hnew_; (first | rw [← Ny168.out] at ho156 | (simp only [Int.reduceToNat] at ho156; rw [← Ny168.out] at ho156)); have n0_ := Aside0.mk (Kd.R_lower ho156 (below_size (M.up HB))); have n1_ := Aside0.mk (blk_below (g := zad) (o := .cells #[.int .i64 a0_0, .slice A0_1 l0_1.length c0_1, .slice A0_2 l0_2.length c0_2] 25 (0, 0)) (by (with_reducible repeat (first | refine blk_drewN ?_ _ | refine blk_drew ?_ | refine blk_alloc ?_ _)); refine blk_far ?_ za1.out _; (with_reducible repeat (first | refine blk_drewN ?_ _ | refine blk_drew ?_ | refine blk_alloc ?_ _)); refine blk_far ?_ za1.out _; (with_reducible repeat (first | refine blk_drewN ?_ _ | refine blk_drew ?_ | refine blk_alloc ?_ _)); refine blk_far ?_ za1.out _; (with_reducible repeat (first | refine blk_drewN ?_ _ | refine blk_drew ?_ | refine blk_alloc ?_ _)); exact zae.out) hb); have n2_ := Aside0.mk (blk_below (g := zaX) (o := .cells #[.string x10_1, .string a2, .int .i64 t166] 32 (0, 0)) (by (with_reducible repeat (first | refine blk_drewN ?_ _ | refine blk_drew ?_ | refine blk_alloc ?_ _)); refine blk_put (cs := #[.string x10_1, .string a2, .int .i64 0]) ?_ 2 _ rfl; (with_reducible repeat (first | refine blk_drewN ?_ _ | refine blk_drew ?_ | refine blk_alloc ?_ _)); refine blk_put (cs := #[.string x10_1, .string (⟨#[]⟩ : ByteArray), .int .i64 0]) ?_ 1 _ rfl; (with_reducible repeat (first | refine blk_drewN ?_ _ | refine blk_drew ?_ | refine blk_alloc ?_ _)); refine blk_put (cs := #[.string (⟨#[]⟩ : ByteArray), .string (⟨#[]⟩ : ByteArray), .int .i64 0]) ?_ 0 _ rfl; (with_reducible repeat (first | refine blk_drewN ?_ _ | refine blk_drew ?_ | refine blk_alloc ?_ _)); exact zaY.out) hb); have n3_ := M.upS HB hb; clear zae zaY HB; have HO170 := n0_; have zae := n1_; have zaY := n2_; have HB := n3_; clear n0_ n1_ n2_ n3_; clear hb ho156; obtain ⟨zdf, zdg, zdh⟩ := M.bc3 (w := w155) (a := .int .i64 a0_0) (b := .slice A0_1 l0_1.length c0_1) (c := .slice A0_2 l0_2.length c0_2) zae.out; obtain ⟨zdi, zdj, zdk⟩ := M.bf3 zae) | ((with_reducible refine gate_callee (f := 8) rfl ?_); refine M.goes (some 54) Try.func8 #[.agg #[.int .i64 a0_0, .slice A0_1 l0_1.length c0_1, .slice A0_2 l0_2.length c0_2]] rfl ?_; (with_reducible refine (pleachref19_Total.calls k1 a0_0 _ _ l0_1 _ _ l0_2 t171 _ ?side1 ?side2 ?side3 ?side4 A26.out).mono ?_); (case side1 => exact M.cB HR0_1 HB); (case side2 => exact HC0_1.out); (case side3 => exact M.cB HR0_2 HB); (case side4 => exact HC0_2.out); rintro e w158 ⟨rfl, hb⟩; refine ⟨_, rfl, ?_⟩; have n0_ := M.roB HO170 hb; have n1_ := M.bkB zae hb; have n2_ := M.bkB zaY hb; have n3_ := M.upS HB hb; clear HO170 zae zaY HB; have HO170 := n0_; have zae := n1_; have zaY := n2_; have HB := n3_; clear n0_ n1_ n2_ n3_; (try clear hb)) | ((with_reducible refine gate_dst (N := 55) rfl ?_); (try (refine gate_guard (by rfl) ?_; dsimp only)); refine Kd.R_lit (Kd.int .i64) _ 3 ?hg (N := 55) ?hd (xs := ([t171, 3] : List Int)) (inner := [.int .i64 t171, .int .i64 3]) (ok := fun _ => True) (okp := fun _ => True) ?hr ?hp (fun _ hk => hk) trivial (Below.refl _ _) (Nat.le_refl _) (by simp) ?_; (case hd => rfl); (case hg => rfl); (case hr => first | (go_simp; done) | (go_simp; rfl)); (case hp => exact (Reps.one (show Kd.M (Kd.int .i64) _ _ _ t171 [.int .i64 t171] from rfl) (Reps.one (show Kd.M (Kd.int .i64) _ _ _ 3 [.int .i64 3] from rfl) (Reps.none _ _)))); intro v173 w159 ho160 hb hg_ hnew_; clear hg_ hnew_; (first | rw [← Ny172.out] at ho160 | (simp only [Int.reduceToNat] at ho160; rw [← Ny172.out] at ho160)); have n0_ := M.roB HO170 hb; have n1_ := Aside0.mk (Kd.R_lower ho160 (below_size (M.up HB))); have n2_ := M.bkB zae hb; have n3_ := M.bkB zaY hb; have n4_ := M.upS HB hb; clear HO170 zae zaY HB; have HO170 := n0_; have HO174 := n1_; have zae := n2_; have zaY := n3_; have HB := n4_; clear n0_ n1_ n2_ n3_ n4_; clear hb ho160; obtain ⟨Ao161, co161, eo161⟩ := Kd.R_slice HO174.out; subst eo161; obtain ⟨Ao162, co162, eo162⟩ := Kd.R_slice HO170.out; subst eo162) | ((with_reducible refine gate_dst (N := 14) rfl ?_); (try (refine gate_guard (by rfl) ?_; dsimp only)); refine box_event ?hg (N := 14) ?hd (cs := #[.int .i64 0, .slice none 0 0, .slice none 0 0]) (t := 25) ?hr ?_; (case hd => rfl); (case hg => rfl); (case hr => first | (go_simp; done) | (go_simp; rfl)); intro zbh hg w163 hbox hb; have n0_ := M.roB HO170 hb; have n1_ := M.roB HO174 hb; have n2_ := M.bkB zae hb; have n3_ := M.bkB zaY hb; have n4_ := M.upS HB hb; have n5_ := Aside0.mk (hbox); have n6_ := M.upG HB hg; have n7_ := M.upG HB hg; have n8_ := M.bkL zae hg; have n9_ := M.bkG zae hg; have n10_ := M.bkL zaY hg; have n11_ := M.bkG zaY hg; clear HO170 HO174 zae zaY HB; have HO170 := n0_; have HO174 := n1_; have zae := n2_; have zaY := n3_; have HB := n4_; have zbi := n5_; have zbj := n6_; have zbk := n7_; have zbl := n8_; have zbm := n9_; have zbn := n10_; have zbo := n11_; clear n0_ n1_ n2_ n3_ n4_ n5_ n6_ n7_ n8_ n9_ n10_ n11_; clear hb hbox hg; have zdl := zbm.out; have zdm := zbl.out; have zdn := zbo.out; have zdo := zbn.out; obtain ⟨zdp, zdq, zdr⟩ := M.bc3 (w := w163) (a := .int .i64 0) (b := .slice none 0 0) (c := .slice none 0 0) zbi.out; obtain ⟨zds, zdt, zdu⟩ := M.bf3 zbi))
              have n0_ : Aside0 (Kd.R k29 29 (((w163.setCell ⟨zbh, 0, none⟩ (.int .i64 a3)).setCell ⟨zbh, 1, none⟩ (.slice Ao162 y168.length co162)).setCell ⟨zbh, 2, none⟩ (.slice Ao161 y172.length co161)) w.heap.size (fun _ => True) (.slice Ao162 y168.length co162) y168) := ⟨by (with_reducible repeat (first | apply Kd.R_alloc | apply Kd.R_drewN | apply Kd.R_drew)); exact Kd.R_mono (Kd.R_far (p := ⟨zbh, 2, none⟩) (Kd.R_far (p := ⟨zbh, 1, none⟩) (Kd.R_far (p := ⟨zbh, 0, none⟩) (Kd.R_types HO170.out zbi.out (by decide)) (fun _ hk => hk.2) (.int .i64 a3)) (fun _ hk => hk.2) (.slice Ao162 y168.length co162)) (fun _ hk => hk.2) (.slice Ao161 y172.length co161)) (fun _ hk => trivial)⟩
              have n1_ : Aside0 (Kd.R (Kd.int .i64) 3 (((w163.setCell ⟨zbh, 0, none⟩ (.int .i64 a3)).setCell ⟨zbh, 1, none⟩ (.slice Ao162 y168.length co162)).setCell ⟨zbh, 2, none⟩ (.slice Ao161 y172.length co161)) w.heap.size (fun _ => True) (.slice Ao161 y172.length co161) y172) := ⟨by (with_reducible repeat (first | apply Kd.R_alloc | apply Kd.R_drewN | apply Kd.R_drew)); exact Kd.R_mono (Kd.R_far (p := ⟨zbh, 2, none⟩) (Kd.R_far (p := ⟨zbh, 1, none⟩) (Kd.R_far (p := ⟨zbh, 0, none⟩) (Kd.R_types HO174.out zbi.out (by decide)) (fun _ hk => hk.2) (.int .i64 a3)) (fun _ hk => hk.2) (.slice Ao162 y168.length co162)) (fun _ hk => hk.2) (.slice Ao161 y172.length co161)) (fun _ hk => trivial)⟩
              have n2_ : Aside0 ((((w163.setCell ⟨zbh, 0, none⟩ (.int .i64 a3)).setCell ⟨zbh, 1, none⟩ (.slice Ao162 y168.length co162)).setCell ⟨zbh, 2, none⟩ (.slice Ao161 y172.length co161)).heap[zad]? = some (.cells #[.int .i64 a0_0, .slice A0_1 l0_1.length c0_1, .slice A0_2 l0_2.length c0_2] 25 (0, 0))) := ⟨by (with_reducible repeat (first | refine blk_drewN ?_ _ | refine blk_drew ?_ | refine blk_alloc ?_ _)); refine blk_far ?_ zbl.out _; (with_reducible repeat (first | refine blk_drewN ?_ _ | refine blk_drew ?_ | refine blk_alloc ?_ _)); refine blk_far ?_ zbl.out _; (with_reducible repeat (first | refine blk_drewN ?_ _ | refine blk_drew ?_ | refine blk_alloc ?_ _)); refine blk_far ?_ zbl.out _; (with_reducible repeat (first | refine blk_drewN ?_ _ | refine blk_drew ?_ | refine blk_alloc ?_ _)); exact zae.out⟩
              have n3_ : Aside0 ((((w163.setCell ⟨zbh, 0, none⟩ (.int .i64 a3)).setCell ⟨zbh, 1, none⟩ (.slice Ao162 y168.length co162)).setCell ⟨zbh, 2, none⟩ (.slice Ao161 y172.length co161)).heap[zaX]? = some (.cells #[.string x10_1, .string a2, .int .i64 t166] 32 (0, 0))) := ⟨by (with_reducible repeat (first | refine blk_drewN ?_ _ | refine blk_drew ?_ | refine blk_alloc ?_ _)); refine blk_far ?_ zbn.out _; (with_reducible repeat (first | refine blk_drewN ?_ _ | refine blk_drew ?_ | refine blk_alloc ?_ _)); refine blk_far ?_ zbn.out _; (with_reducible repeat (first | refine blk_drewN ?_ _ | refine blk_drew ?_ | refine blk_alloc ?_ _)); refine blk_far ?_ zbn.out _; (with_reducible repeat (first | refine blk_drewN ?_ _ | refine blk_drew ?_ | refine blk_alloc ?_ _)); exact zaY.out⟩
              have n4_ : Aside0 ((((w163.setCell ⟨zbh, 0, none⟩ (.int .i64 a3)).setCell ⟨zbh, 1, none⟩ (.slice Ao162 y168.length co162)).setCell ⟨zbh, 2, none⟩ (.slice Ao161 y172.length co161)).heap[zbh]? = some (.cells #[.int .i64 a3, .slice Ao162 y168.length co162, .slice Ao161 y172.length co161] 25 (0, 0))) := ⟨by (with_reducible repeat (first | refine blk_drewN ?_ _ | refine blk_drew ?_ | refine blk_alloc ?_ _)); refine blk_put (cs := #[.int .i64 a3, .slice Ao162 y168.length co162, .slice none 0 0]) ?_ 2 _ rfl; (with_reducible repeat (first | refine blk_drewN ?_ _ | refine blk_drew ?_ | refine blk_alloc ?_ _)); refine blk_put (cs := #[.int .i64 a3, .slice none 0 0, .slice none 0 0]) ?_ 1 _ rfl; (with_reducible repeat (first | refine blk_drewN ?_ _ | refine blk_drew ?_ | refine blk_alloc ?_ _)); refine blk_put (cs := #[.int .i64 0, .slice none 0 0, .slice none 0 0]) ?_ 0 _ rfl; (with_reducible repeat (first | refine blk_drewN ?_ _ | refine blk_drew ?_ | refine blk_alloc ?_ _)); exact zbi.out⟩
              have n5_ : Aside0 (Below w.heap.size w (((w163.setCell ⟨zbh, 0, none⟩ (.int .i64 a3)).setCell ⟨zbh, 1, none⟩ (.slice Ao162 y168.length co162)).setCell ⟨zbh, 2, none⟩ (.slice Ao161 y172.length co161))) := ⟨M.up HB⟩
              (try clear HO170)
              (try clear HO174)
              (try clear zae)
              (try clear zaY)
              (try clear zbi)
              (try clear HB)
              generalize (((w163.setCell ⟨zbh, 0, none⟩ (.int .i64 a3)).setCell ⟨zbh, 1, none⟩ (.slice Ao162 y168.length co162)).setCell ⟨zbh, 2, none⟩ (.slice Ao161 y172.length co161)) = w167 at n0_ n1_ n2_ n3_ n4_ n5_ ⊢
              have HO170 := n0_
              have HO174 := n1_
              have zae := n2_
              have zaY := n3_
              have zbi := n4_
              have HB := n5_
              clear n0_ n1_ n2_ n3_ n4_ n5_
              have n0_ := Aside0.mk (Kd.R_drew HO170.out)
              have n1_ := Aside0.mk (Kd.R_drew HO174.out)
              have n2_ := Aside0.mk (blk_drew zae.out)
              have n3_ := Aside0.mk (blk_drew zaY.out)
              have n4_ := Aside0.mk (blk_drew zbi.out)
              have n5_ := Aside0.mk (below_drew1 HB.out)
              clear HO170 HO174 zae zaY zbi HB
              have HO170 := n0_
              have HO174 := n1_
              have zae := n2_
              have zaY := n3_
              have zbi := n4_
              have HB := n5_
              clear n0_ n1_ n2_ n3_ n4_ n5_
              refine start_ (n := 39) (S := fun w' => w'.cell? ⟨zad, 0, none⟩ = some (.int .i64 a0_0) ∧ w'.cell? ⟨zad, 1, none⟩ = some (.slice A0_1 l0_1.length c0_1) ∧ w'.cell? ⟨zad, 2, none⟩ = some (.slice A0_2 l0_2.length c0_2)) (ds := []) (M.tf [0, 39]) (by kernel_rfl) rfl rfl ⟨(blk_cell zae.out 0).trans rfl, (blk_cell zae.out 1).trans rfl, (blk_cell zae.out 2).trans rfl⟩ (fun hHeld => ?_); refine with_tabW pleachlaw19_ChunkTells.tab13 pleachlaw19_ChunkTells.bits13 (fun HT_ HW_ => ?_)
              generalize w167.drew = w168 at HO170 HO174 zae zaY zbi HB hHeld ⊢
              refine take_ (i := 0) (N := some 57) (v := ?_) (a' := ?_) (M.tf [1, 38]) rfl rfl (take_ofW HT_.out HW_.out (by kernel_rfl)) (fun _ _ _ h => h) (Or.inl ⟨by rfl, ?_⟩) hHeld ?_ ?_
              rotate_left
              · rintro w' ⟨s0, s1, s2⟩
                go_simp
                with_reducible rfl
              rotate_left
              · simp only [Act.put, List.setIfInBounds_toArray, List.set_cons_zero, List.set_cons_succ, i64_w, i32_w]
                rfl
              refine take_ (i := 2) (N := some 59) (v := ?_) (a' := ?_) (M.tf [1, 1, 1, 36]) rfl rfl (take_ofW HT_.out HW_.out (by kernel_rfl)) (fun _ _ _ h => h) (Or.inl ⟨by rfl, ?_⟩) hHeld ?_ ?_
              rotate_left
              · rintro w' ⟨s0, s1, s2⟩
                go_simp
                with_reducible rfl
              rotate_left
              · simp only [Act.put, List.setIfInBounds_toArray, List.set_cons_zero, List.set_cons_succ, i64_w, i32_w]
                rfl
              refine one_ (i := 1) (N := some 58) (M.tf [3, 36]) rfl rfl (one_of HT_.out (by kernel_rfl)) (by decide) (fun K hK => ?_)
              refine goes_ Try.func9 (by kernel_rfl) rfl #[.agg #[.int .i64 a0_0, .slice A0_1 l0_1.length c0_1, .slice A0_2 l0_2.length c0_2]] (by rfl) rfl rfl (by (try simp only [List.map_toArray, List.map_cons, List.map_nil]); first | done | rfl | (simp only [List.length_drop, List.length_take]; rfl)) ?_
              with_reducible refine (chunk_Total.calls k1 a0_0 _ _ l0_1 _ _ l0_2 t176 _ ?side1 ?side2 ?side3 ?side4 A27.out).mono ?_
              (case side1 => exact M.cB HR0_1 HB)
              (case side2 => exact HC0_1.out)
              (case side3 => exact M.cB HR0_2 HB)
              (case side4 => exact HC0_2.out)
              rintro e w169 ⟨rfl, hb⟩
              refine ⟨_, rfl, ?_⟩
              have n0_ := M.roB HO170 hb
              have n1_ := M.roB HO174 hb
              have n2_ := M.bkB zae hb
              have n3_ := M.bkB zaY hb
              have n4_ := M.bkB zbi hb
              have n5_ := M.upS HB hb
              clear HO170 HO174 zae zaY zbi HB
              have HO170 := n0_
              have HO174 := n1_
              have zae := n2_
              have zaY := n3_
              have zbi := n4_
              have HB := n5_
              clear n0_ n1_ n2_ n3_ n4_ n5_
              (try clear hb)
              (try clear hb2)
              (try clear hk)
              (try clear hi)
              refine hK.out _ _ ⟨(blk_cell zae.out 0).trans rfl, (blk_cell zae.out 1).trans rfl, (blk_cell zae.out 2).trans rfl⟩ (fun hHeld => ?_)
              clear hK K
              refine norm_ (a' := ?_) ?_ ?_
              rotate_left
              · show Act.put _ (some 58) _ = _
                simp only [Act.put, List.setIfInBounds_toArray, List.set_cons_zero, List.set_cons_succ, i64_w, i32_w]
                rfl
              refine one_ (i := 3) (N := some 60) (M.tf [4, 35]) rfl rfl (one_of HT_.out (by kernel_rfl)) (by decide) (fun K hK => ?_)
              refine goes_ Try.func8 (by kernel_rfl) rfl #[.agg #[.int .i64 a0_0, .slice A0_1 l0_1.length c0_1, .slice A0_2 l0_2.length c0_2]] (by rfl) rfl rfl (by (try simp only [List.map_toArray, List.map_cons, List.map_nil]); first | done | rfl | (simp only [List.length_drop, List.length_take]; rfl)) ?_
              with_reducible refine (pleachref19_Total.calls k1 a0_0 _ _ l0_1 _ _ l0_2 t177 _ ?side1 ?side2 ?side3 ?side4 A28.out).mono ?_
              (case side1 => exact M.cB HR0_1 HB)
              (case side2 => exact HC0_1.out)
              (case side3 => exact M.cB HR0_2 HB)
              (case side4 => exact HC0_2.out)
              rintro e w170 ⟨rfl, hb⟩
              refine ⟨_, rfl, ?_⟩
              have n0_ := M.roB HO170 hb
              have n1_ := M.roB HO174 hb
              have n2_ := M.bkB zae hb
              have n3_ := M.bkB zaY hb
              have n4_ := M.bkB zbi hb
              have n5_ := M.upS HB hb
              clear HO170 HO174 zae zaY zbi HB
              have HO170 := n0_
              have HO174 := n1_
              have zae := n2_
              have zaY := n3_
              have zbi := n4_
              have HB := n5_
              clear n0_ n1_ n2_ n3_ n4_ n5_
              (try clear hb)
              (try clear hb2)
              (try clear hk)
              (try clear hi)
              refine hK.out _ _ ⟨(blk_cell zae.out 0).trans rfl, (blk_cell zae.out 1).trans rfl, (blk_cell zae.out 2).trans rfl⟩ (fun hHeld => ?_)
              clear hK K
              refine norm_ (a' := ?_) ?_ ?_
              rotate_left
              · show Act.put _ (some 60) _ = _
                simp only [Act.put, List.setIfInBounds_toArray, List.set_cons_zero, List.set_cons_succ, i64_w, i32_w]
                rfl
              refine pure_ (i := 4) (N := some 61) (v := ?_) (a' := ?_) (M.tf [5, 34]) rfl rfl (any_of HT_.out (by kernel_rfl)) (fun _ _ _ h => h) (Or.inl ⟨by rfl, ?_⟩) ?_ ?_
              rotate_left
              · intro w'
                go_simp
                with_reducible rfl
              rotate_left
              · simp only [Act.put, List.setIfInBounds_toArray, List.set_cons_zero, List.set_cons_succ, i64_w, i32_w]
                rfl
              refine pure_ (i := 5) (N := some 62) (v := ?_) (a' := ?_) (M.tf [6, 33]) rfl rfl (any_of HT_.out (by kernel_rfl)) (fun _ _ _ h => h) (Or.inl ⟨by rfl, ?_⟩) ?_ ?_
              rotate_left
              · intro w'
                go_simp
                with_reducible rfl
              rotate_left
              · simp only [Act.put, List.setIfInBounds_toArray, List.set_cons_zero, List.set_cons_succ, i64_w, i32_w]
                rfl
              refine pure_ (i := 8) (N := some 65) (v := ?_) (a' := ?_) (M.tf [6, 2, 1, 30]) rfl rfl (any_of HT_.out (by kernel_rfl)) (fun _ _ _ h => h) (Or.inl ⟨by rfl, ?_⟩) ?_ ?_
              rotate_left
              · intro w'
                go_simp
                with_reducible rfl
              rotate_left
              · simp only [Act.put, List.setIfInBounds_toArray, List.set_cons_zero, List.set_cons_succ, i64_w, i32_w]
                rfl
              refine take_ (i := 6) (N := some 63) (v := ?_) (a' := ?_) (M.tf [7, 1, 1, 30]) rfl rfl (take_ofW HT_.out HW_.out (by kernel_rfl)) (fun _ _ _ h => h) (Or.inl ⟨by rfl, ?_⟩) hHeld ?_ ?_
              rotate_left
              · rintro w' ⟨s0, s1, s2⟩
                go_simp
                with_reducible rfl
              rotate_left
              · simp only [Act.put, List.setIfInBounds_toArray, List.set_cons_zero, List.set_cons_succ, i64_w, i32_w]
                rfl
              refine one_ (i := 7) (N := some 64) (M.tf [9, 30]) rfl rfl (one_of HT_.out (by kernel_rfl)) (by decide) (fun K hK => ?_)
              refine goes_ Try.func10 (by kernel_rfl) rfl #[.agg #[.int .i64 a0_0, .slice A0_1 l0_1.length c0_1, .slice A0_2 l0_2.length c0_2]] (by rfl) rfl rfl (by (try simp only [List.map_toArray, List.map_cons, List.map_nil]); first | done | rfl | (simp only [List.length_drop, List.length_take]; rfl)) ?_
              with_reducible refine (chunk_Last.calls a0_0 _ _ l0_1 _ _ l0_2 t178 _ ?side1 ?side2 ?side3 ?side4 A30.out).mono ?_
              (case side1 => exact M.cB HR0_1 HB)
              (case side2 => exact HC0_1.out)
              (case side3 => exact M.cB HR0_2 HB)
              (case side4 => exact HC0_2.out)
              rintro e w171 ⟨rfl, hb⟩
              refine ⟨_, rfl, ?_⟩
              have n0_ := M.roB HO170 hb
              have n1_ := M.roB HO174 hb
              have n2_ := M.bkB zae hb
              have n3_ := M.bkB zaY hb
              have n4_ := M.bkB zbi hb
              have n5_ := M.upS HB hb
              clear HO170 HO174 zae zaY zbi HB
              have HO170 := n0_
              have HO174 := n1_
              have zae := n2_
              have zaY := n3_
              have zbi := n4_
              have HB := n5_
              clear n0_ n1_ n2_ n3_ n4_ n5_
              (try clear hb)
              (try clear hb2)
              (try clear hk)
              (try clear hi)
              refine hK.out _ _ ⟨(blk_cell zae.out 0).trans rfl, (blk_cell zae.out 1).trans rfl, (blk_cell zae.out 2).trans rfl⟩ (fun hHeld => ?_)
              clear hK K
              refine norm_ (a' := ?_) ?_ ?_
              rotate_left
              · show Act.put _ (some 64) _ = _
                simp only [Act.put, List.setIfInBounds_toArray, List.set_cons_zero, List.set_cons_succ, i64_w, i32_w]
                rfl
              refine pure_ (i := 9) (N := some 66) (v := ?_) (a' := ?_) (M.tf [10, 29]) rfl rfl (any_of HT_.out (by kernel_rfl)) (fun _ _ _ h => h) (Or.inl ⟨by rfl, ?_⟩) ?_ ?_
              rotate_left
              · intro w'
                go_simp
                with_reducible rfl
              rotate_left
              · simp only [Act.put, List.setIfInBounds_toArray, List.set_cons_zero, List.set_cons_succ, i64_w, i32_w]
                rfl
              refine pure_ (i := 10) (N := some 67) (v := ?_) (a' := ?_) (M.tf [11, 28]) rfl rfl (any_of HT_.out (by kernel_rfl)) (fun _ _ _ h => h) (Or.inl ⟨by rfl, ?_⟩) ?_ ?_
              rotate_left
              · intro w'
                go_simp
                with_reducible rfl
              rotate_left
              · simp only [Act.put, List.setIfInBounds_toArray, List.set_cons_zero, List.set_cons_succ, i64_w, i32_w]
                rfl
              refine pure_ (i := 11) (N := some 68) (v := ?_) (a' := ?_) (M.tf [12, 27]) rfl rfl (any_of HT_.out (by kernel_rfl)) (fun _ _ _ h => h) (Or.inl ⟨by rfl, ?_⟩) ?_ ?_
              rotate_left
              · intro w'
                go_simp
                with_reducible rfl
              rotate_left
              · simp only [Act.put, List.setIfInBounds_toArray, List.set_cons_zero, List.set_cons_succ, i64_w, i32_w]
                rfl
              refine pure_ (i := 12) (N := some 69) (v := undef) (a' := ?_) (M.tf [13, 26]) rfl rfl (any_of HT_.out (by kernel_rfl)) (fun _ _ _ h => h) (Or.inr ⟨by rfl, rfl⟩) ?_ ?_
              rotate_left
              · simp only [Act.put, List.setIfInBounds_toArray, List.set_cons_zero, List.set_cons_succ, i64_w, i32_w]
                rfl
              refine pure_ (i := 13) (N := some 70) (v := undef) (a' := ?_) (M.tf [14, 25]) rfl rfl (any_of HT_.out (by kernel_rfl)) (fun _ _ _ h => h) (Or.inr ⟨by rfl, rfl⟩) ?_ ?_
              rotate_left
              · simp only [Act.put, List.setIfInBounds_toArray, List.set_cons_zero, List.set_cons_succ, i64_w, i32_w]
                rfl
              refine pure_ (i := 14) (N := some 71) (v := undef) (a' := ?_) (M.tf [15, 24]) rfl rfl (any_of HT_.out (by kernel_rfl)) (fun _ _ _ h => h) (Or.inr ⟨by rfl, rfl⟩) ?_ ?_
              rotate_left
              · simp only [Act.put, List.setIfInBounds_toArray, List.set_cons_zero, List.set_cons_succ, i64_w, i32_w]
                rfl
              refine pure_ (i := 15) (N := some 72) (v := undef) (a' := ?_) (M.tf [16, 23]) rfl rfl (any_of HT_.out (by kernel_rfl)) (fun _ _ _ h => h) (Or.inr ⟨by rfl, rfl⟩) ?_ ?_
              rotate_left
              · simp only [Act.put, List.setIfInBounds_toArray, List.set_cons_zero, List.set_cons_succ, i64_w, i32_w]
                rfl
              refine pure_ (i := 16) (N := some 73) (v := undef) (a' := ?_) (M.tf [17, 22]) rfl rfl (any_of HT_.out (by kernel_rfl)) (fun _ _ _ h => h) (Or.inr ⟨by rfl, rfl⟩) ?_ ?_
              rotate_left
              · simp only [Act.put, List.setIfInBounds_toArray, List.set_cons_zero, List.set_cons_succ, i64_w, i32_w]
                rfl
              refine pure_ (i := 17) (N := some 74) (v := ?_) (a' := ?_) (M.tf [18, 21]) rfl rfl (any_of HT_.out (by kernel_rfl)) (fun _ _ _ h => h) (Or.inl ⟨by rfl, ?_⟩) ?_ ?_
              rotate_left
              · intro w'
                go_simp
                with_reducible rfl
              rotate_left
              · simp only [Act.put, List.setIfInBounds_toArray, List.set_cons_zero, List.set_cons_succ, i64_w, i32_w]
                rfl
              refine pure_ (i := 18) (N := some 75) (v := ?_) (a' := ?_) (M.tf [19, 20]) rfl rfl (any_of HT_.out (by kernel_rfl)) (fun _ _ _ h => h) (Or.inl ⟨by rfl, ?_⟩) ?_ ?_
              rotate_left
              · intro w'
                go_simp
                with_reducible rfl
              rotate_left
              · simp only [Act.put, List.setIfInBounds_toArray, List.set_cons_zero, List.set_cons_succ, i64_w, i32_w]
                rfl
              refine pure_ (i := 19) (N := some 76) (v := undef) (a' := ?_) (M.tf [20, 19]) rfl rfl (any_of HT_.out (by kernel_rfl)) (fun _ _ _ h => h) (Or.inr ⟨by rfl, rfl⟩) ?_ ?_
              rotate_left
              · simp only [Act.put, List.setIfInBounds_toArray, List.set_cons_zero, List.set_cons_succ, i64_w, i32_w]
                rfl
              refine pure_ (i := 20) (N := some 77) (v := undef) (a' := ?_) (M.tf [21, 18]) rfl rfl (any_of HT_.out (by kernel_rfl)) (fun _ _ _ h => h) (Or.inr ⟨by rfl, rfl⟩) ?_ ?_
              rotate_left
              · simp only [Act.put, List.setIfInBounds_toArray, List.set_cons_zero, List.set_cons_succ, i64_w, i32_w]
                rfl
              refine pure_ (i := 21) (N := some 78) (v := undef) (a' := ?_) (M.tf [22, 17]) rfl rfl (any_of HT_.out (by kernel_rfl)) (fun _ _ _ h => h) (Or.inr ⟨by rfl, rfl⟩) ?_ ?_
              rotate_left
              · simp only [Act.put, List.setIfInBounds_toArray, List.set_cons_zero, List.set_cons_succ, i64_w, i32_w]
                rfl
              refine pure_ (i := 22) (N := some 79) (v := undef) (a' := ?_) (M.tf [23, 16]) rfl rfl (any_of HT_.out (by kernel_rfl)) (fun _ _ _ h => h) (Or.inr ⟨by rfl, rfl⟩) ?_ ?_
              rotate_left
              · simp only [Act.put, List.setIfInBounds_toArray, List.set_cons_zero, List.set_cons_succ, i64_w, i32_w]
                rfl
              refine pure_ (i := 23) (N := some 80) (v := undef) (a' := ?_) (M.tf [24, 15]) rfl rfl (any_of HT_.out (by kernel_rfl)) (fun _ _ _ h => h) (Or.inr ⟨by rfl, rfl⟩) ?_ ?_
              rotate_left
              · simp only [Act.put, List.setIfInBounds_toArray, List.set_cons_zero, List.set_cons_succ, i64_w, i32_w]
                rfl
              refine pure_ (i := 24) (N := some 81) (v := ?_) (a' := ?_) (M.tf [25, 14]) rfl rfl (any_of HT_.out (by kernel_rfl)) (fun _ _ _ h => h) (Or.inl ⟨by rfl, ?_⟩) ?_ ?_
              rotate_left
              · intro w'
                go_simp
                with_reducible rfl
              rotate_left
              · simp only [Act.put, List.setIfInBounds_toArray, List.set_cons_zero, List.set_cons_succ, i64_w, i32_w]
                rfl
              refine pure_ (i := 25) (N := some 82) (v := ?_) (a' := ?_) (M.tf [26, 13]) rfl rfl (any_of HT_.out (by kernel_rfl)) (fun _ _ _ h => h) (Or.inl ⟨by rfl, ?_⟩) ?_ ?_
              rotate_left
              · intro w'
                go_simp
                with_reducible rfl
              rotate_left
              · simp only [Act.put, List.setIfInBounds_toArray, List.set_cons_zero, List.set_cons_succ, i64_w, i32_w]
                rfl
              refine pure_ (i := 26) (N := some 83) (v := undef) (a' := ?_) (M.tf [27, 12]) rfl rfl (any_of HT_.out (by kernel_rfl)) (fun _ _ _ h => h) (Or.inr ⟨by rfl, rfl⟩) ?_ ?_
              rotate_left
              · simp only [Act.put, List.setIfInBounds_toArray, List.set_cons_zero, List.set_cons_succ, i64_w, i32_w]
                rfl
              refine pure_ (i := 27) (N := some 84) (v := undef) (a' := ?_) (M.tf [28, 11]) rfl rfl (any_of HT_.out (by kernel_rfl)) (fun _ _ _ h => h) (Or.inr ⟨by rfl, rfl⟩) ?_ ?_
              rotate_left
              · simp only [Act.put, List.setIfInBounds_toArray, List.set_cons_zero, List.set_cons_succ, i64_w, i32_w]
                rfl
              refine pure_ (i := 28) (N := some 85) (v := undef) (a' := ?_) (M.tf [29, 10]) rfl rfl (any_of HT_.out (by kernel_rfl)) (fun _ _ _ h => h) (Or.inr ⟨by rfl, rfl⟩) ?_ ?_
              rotate_left
              · simp only [Act.put, List.setIfInBounds_toArray, List.set_cons_zero, List.set_cons_succ, i64_w, i32_w]
                rfl
              refine pure_ (i := 29) (N := some 86) (v := undef) (a' := ?_) (M.tf [30, 9]) rfl rfl (any_of HT_.out (by kernel_rfl)) (fun _ _ _ h => h) (Or.inr ⟨by rfl, rfl⟩) ?_ ?_
              rotate_left
              · simp only [Act.put, List.setIfInBounds_toArray, List.set_cons_zero, List.set_cons_succ, i64_w, i32_w]
                rfl
              refine pure_ (i := 30) (N := some 87) (v := undef) (a' := ?_) (M.tf [31, 8]) rfl rfl (any_of HT_.out (by kernel_rfl)) (fun _ _ _ h => h) (Or.inr ⟨by rfl, rfl⟩) ?_ ?_
              rotate_left
              · simp only [Act.put, List.setIfInBounds_toArray, List.set_cons_zero, List.set_cons_succ, i64_w, i32_w]
                rfl
              refine pure_ (i := 31) (N := some 88) (v := undef) (a' := ?_) (M.tf [32, 7]) rfl rfl (any_of HT_.out (by kernel_rfl)) (fun _ _ _ h => h) (Or.inr ⟨by rfl, rfl⟩) ?_ ?_
              rotate_left
              · simp only [Act.put, List.setIfInBounds_toArray, List.set_cons_zero, List.set_cons_succ, i64_w, i32_w]
                rfl
              refine pure_ (i := 32) (N := some 89) (v := undef) (a' := ?_) (M.tf [33, 6]) rfl rfl (any_of HT_.out (by kernel_rfl)) (fun _ _ _ h => h) (Or.inr ⟨by rfl, rfl⟩) ?_ ?_
              rotate_left
              · simp only [Act.put, List.setIfInBounds_toArray, List.set_cons_zero, List.set_cons_succ, i64_w, i32_w]
                rfl
              refine pure_ (i := 33) (N := some 90) (v := undef) (a' := ?_) (M.tf [34, 5]) rfl rfl (any_of HT_.out (by kernel_rfl)) (fun _ _ _ h => h) (Or.inr ⟨by rfl, rfl⟩) ?_ ?_
              rotate_left
              · simp only [Act.put, List.setIfInBounds_toArray, List.set_cons_zero, List.set_cons_succ, i64_w, i32_w]
                rfl
              refine pure_ (i := 34) (N := some 91) (v := ?_) (a' := ?_) (M.tf [35, 4]) rfl rfl (any_of HT_.out (by kernel_rfl)) (fun _ _ _ h => h) (Or.inl ⟨by rfl, ?_⟩) ?_ ?_
              rotate_left
              · intro w'
                go_simp
                with_reducible rfl
              rotate_left
              · simp only [Act.put, List.setIfInBounds_toArray, List.set_cons_zero, List.set_cons_succ, i64_w, i32_w]
                rfl
              refine pure_ (i := 35) (N := some 92) (v := ?_) (a' := ?_) (M.tf [36, 3]) rfl rfl (any_of HT_.out (by kernel_rfl)) (fun _ _ _ h => h) (Or.inl ⟨by rfl, ?_⟩) ?_ ?_
              rotate_left
              · intro w'
                go_simp
                with_reducible rfl
              rotate_left
              · simp only [Act.put, List.setIfInBounds_toArray, List.set_cons_zero, List.set_cons_succ, i64_w, i32_w]
                rfl
              refine pure_ (i := 36) (N := some 93) (v := undef) (a' := ?_) (M.tf [37, 2]) rfl rfl (any_of HT_.out (by kernel_rfl)) (fun _ _ _ h => h) (Or.inr ⟨by rfl, rfl⟩) ?_ ?_
              rotate_left
              · simp only [Act.put, List.setIfInBounds_toArray, List.set_cons_zero, List.set_cons_succ, i64_w, i32_w]
                rfl
              refine pure_ (i := 37) (N := some 94) (v := ?_) (a' := ?_) (M.tf [38, 1]) rfl rfl (any_of HT_.out (by kernel_rfl)) (fun _ _ _ h => h) (Or.inl ⟨by rfl, ?_⟩) ?_ ?_
              rotate_left
              · intro w'
                go_simp
                with_reducible rfl
              rotate_left
              · simp only [Act.put, List.setIfInBounds_toArray, List.set_cons_zero, List.set_cons_succ, i64_w, i32_w]
                rfl
              refine pure_ (i := 38) (N := some 8) (v := ?_) (a' := ?_) (M.tf [39]) rfl rfl (any_of HT_.out (by kernel_rfl)) (fun _ _ _ h => h) (Or.inl ⟨by rfl, ?_⟩) ?_ ?_
              rotate_left
              · intro w'
                go_simp
                with_reducible rfl
              rotate_left
              · simp only [Act.put, List.setIfInBounds_toArray, List.set_cons_zero, List.set_cons_succ, i64_w, i32_w]
                rfl
              refine done_ (done_of HT_.out (by kernel_rfl)) ?_
              try go_wp2
              go_ret
              exact M.fin (M.up HB)
          · rw [if_neg c29] at H
            have c29b0 : (t176 == t177) = false := beq_eq_false_iff_ne.mpr c29
            have c29b1 : (t176 != t177) = true := bne_iff_ne.mpr c29
            obtain rfl := Option.some.inj H
            obtain ⟨zdv, zdw, zdx⟩ := M.bc3 (w := wr) (a := .int .i64 a0_0) (b := .slice A0_1 l0_1.length c0_1) (c := .slice A0_2 l0_2.length c0_2) zae.out
            obtain ⟨zdy, zdz, zdA⟩ := M.bf3 zae
            try go_wp2_with (first | ((with_reducible refine gate_callee (f := 8) rfl ?_); refine M.goes (some 44) Try.func8 #[.agg #[.int .i64 a0_0, .slice A0_1 l0_1.length c0_1, .slice A0_2 l0_2.length c0_2]] rfl ?_; (with_reducible refine (pleachref19_Total.calls k1 a0_0 _ _ l0_1 _ _ l0_2 t166 _ ?side1 ?side2 ?side3 ?side4 A25.out).mono ?_); (case side1 => exact M.cB HR0_1 HB); (case side2 => exact HC0_1.out); (case side3 => exact M.cB HR0_2 HB); (case side4 => exact HC0_2.out); rintro e w173 ⟨rfl, hb⟩; refine ⟨_, rfl, ?_⟩; have n0_ := M.bkB zae hb; have n1_ := M.upS HB hb; clear zae HB; have zae := n0_; have HB := n1_; clear n0_ n1_; (try clear hb)) | ((with_reducible refine gate_dst (N := 13) rfl ?_); (try (refine gate_guard (by rfl) ?_; dsimp only)); refine box_event ?hg (N := 13) ?hd (cs := #[.string (⟨#[]⟩ : ByteArray), .string (⟨#[]⟩ : ByteArray), .int .i64 0]) (t := 32) ?hr ?_; (case hd => rfl); (case hg => rfl); (case hr => first | (go_simp; done) | (go_simp; rfl)); intro zaX hg w174 hbox hb; have n0_ := M.bkB zae hb; have n1_ := M.upS HB hb; have n2_ := Aside0.mk (hbox); have n3_ := M.upG HB hg; have n4_ := M.upG HB hg; have n5_ := M.bkL zae hg; have n6_ := M.bkG zae hg; clear zae HB; have zae := n0_; have HB := n1_; have zaY := n2_; have zaZ := n3_; have za0 := n4_; have za1 := n5_; have za2 := n6_; clear n0_ n1_ n2_ n3_ n4_ n5_ n6_; clear hb hbox hg; have zdB := za2.out; have zdC := za1.out; obtain ⟨zdD, zdE, zdF⟩ := M.bc3 (w := w174) (a := .string (⟨#[]⟩ : ByteArray)) (b := .string (⟨#[]⟩ : ByteArray)) (c := .int .i64 0) zaY.out; obtain ⟨zdG, zdH, zdI⟩ := M.bf3 zaY) | ((with_reducible refine gate_dst (N := 52) rfl ?_); (try (refine gate_guard (by rfl) ?_; dsimp only)); refine Kd.R_lit k29 _ 29 ?hg (N := 52) ?hd (xs := ([(⟨x10_1, a2⟩ : S29), (⟨a1, (⟨#[120]⟩ : ByteArray)⟩ : S29)] : List (S29))) (inner := [.string x10_1, .string a2, .string a1, .string (⟨#[120]⟩ : ByteArray)]) (ok := fun _ => True) (okp := fun _ => True) ?hr ?hp (fun _ hk => hk) trivial (Below.refl _ _) (Nat.le_refl _) (by simp) ?_; (case hd => rfl); (case hg => rfl); (case hr => first | (go_simp; done) | (go_simp; rfl)); (case hp => exact (Reps.c2 (show Kd.M k29 _ _ _ (⟨x10_1, a2⟩ : S29) [.string x10_1, .string a2] from (k29_mkM _ _ _ (⟨x10_1, a2⟩ : S29) )) (Reps.c2 (show Kd.M k29 _ _ _ (⟨a1, (⟨#[120]⟩ : ByteArray)⟩ : S29) [.string a1, .string (⟨#[120]⟩ : ByteArray)] from (k29_mkM _ _ _ (⟨a1, (⟨#[120]⟩ : ByteArray)⟩ : S29) )) (Reps.none _ _)))); intro v169 w177 ho178 hb hg_ hnew_; clear hg_ hnew_; (first | rw [← Ny168.out] at ho178 | (simp only [Int.reduceToNat] at ho178; rw [← Ny168.out] at ho178)); have n0_ := Aside0.mk (Kd.R_lower ho178 (below_size (M.up HB))); have n1_ := Aside0.mk (blk_below (g := zad) (o := .cells #[.int .i64 a0_0, .slice A0_1 l0_1.length c0_1, .slice A0_2 l0_2.length c0_2] 25 (0, 0)) (by (with_reducible repeat (first | refine blk_drewN ?_ _ | refine blk_drew ?_ | refine blk_alloc ?_ _)); refine blk_far ?_ za1.out _; (with_reducible repeat (first | refine blk_drewN ?_ _ | refine blk_drew ?_ | refine blk_alloc ?_ _)); refine blk_far ?_ za1.out _; (with_reducible repeat (first | refine blk_drewN ?_ _ | refine blk_drew ?_ | refine blk_alloc ?_ _)); refine blk_far ?_ za1.out _; (with_reducible repeat (first | refine blk_drewN ?_ _ | refine blk_drew ?_ | refine blk_alloc ?_ _)); exact zae.out) hb); have n2_ := Aside0.mk (blk_below (g := zaX) (o := .cells #[.string x10_1, .string a2, .int .i64 t166] 32 (0, 0)) (by (with_reducible repeat (first | refine blk_drewN ?_ _ | refine blk_drew ?_ | refine blk_alloc ?_ _)); refine blk_put (cs := #[.string x10_1, .string a2, .int .i64 0]) ?_ 2 _ rfl; (with_reducible repeat (first | refine blk_drewN ?_ _ | refine blk_drew ?_ | refine blk_alloc ?_ _)); refine blk_put (cs := #[.string x10_1, .string (⟨#[]⟩ : ByteArray), .int .i64 0]) ?_ 1 _ rfl; (with_reducible repeat (first | refine blk_drewN ?_ _ | refine blk_drew ?_ | refine blk_alloc ?_ _)); refine blk_put (cs := #[.string (⟨#[]⟩ : ByteArray), .string (⟨#[]⟩ : ByteArray), .int .i64 0]) ?_ 0 _ rfl; (with_reducible repeat (first | refine blk_drewN ?_ _ | refine blk_drew ?_ | refine blk_alloc ?_ _)); exact zaY.out) hb); have n3_ := M.upS HB hb; clear zae zaY HB; have HO170 := n0_; have zae := n1_; have zaY := n2_; have HB := n3_; clear n0_ n1_ n2_ n3_; clear hb ho178; obtain ⟨zdJ, zdK, zdL⟩ := M.bc3 (w := w177) (a := .int .i64 a0_0) (b := .slice A0_1 l0_1.length c0_1) (c := .slice A0_2 l0_2.length c0_2) zae.out; obtain ⟨zdM, zdN, zdO⟩ := M.bf3 zae) | ((with_reducible refine gate_callee (f := 8) rfl ?_); refine M.goes (some 54) Try.func8 #[.agg #[.int .i64 a0_0, .slice A0_1 l0_1.length c0_1, .slice A0_2 l0_2.length c0_2]] rfl ?_; (with_reducible refine (pleachref19_Total.calls k1 a0_0 _ _ l0_1 _ _ l0_2 t171 _ ?side1 ?side2 ?side3 ?side4 A26.out).mono ?_); (case side1 => exact M.cB HR0_1 HB); (case side2 => exact HC0_1.out); (case side3 => exact M.cB HR0_2 HB); (case side4 => exact HC0_2.out); rintro e w180 ⟨rfl, hb⟩; refine ⟨_, rfl, ?_⟩; have n0_ := M.roB HO170 hb; have n1_ := M.bkB zae hb; have n2_ := M.bkB zaY hb; have n3_ := M.upS HB hb; clear HO170 zae zaY HB; have HO170 := n0_; have zae := n1_; have zaY := n2_; have HB := n3_; clear n0_ n1_ n2_ n3_; (try clear hb)) | ((with_reducible refine gate_dst (N := 55) rfl ?_); (try (refine gate_guard (by rfl) ?_; dsimp only)); refine Kd.R_lit (Kd.int .i64) _ 3 ?hg (N := 55) ?hd (xs := ([t171, 3] : List Int)) (inner := [.int .i64 t171, .int .i64 3]) (ok := fun _ => True) (okp := fun _ => True) ?hr ?hp (fun _ hk => hk) trivial (Below.refl _ _) (Nat.le_refl _) (by simp) ?_; (case hd => rfl); (case hg => rfl); (case hr => first | (go_simp; done) | (go_simp; rfl)); (case hp => exact (Reps.one (show Kd.M (Kd.int .i64) _ _ _ t171 [.int .i64 t171] from rfl) (Reps.one (show Kd.M (Kd.int .i64) _ _ _ 3 [.int .i64 3] from rfl) (Reps.none _ _)))); intro v173 w181 ho182 hb hg_ hnew_; clear hg_ hnew_; (first | rw [← Ny172.out] at ho182 | (simp only [Int.reduceToNat] at ho182; rw [← Ny172.out] at ho182)); have n0_ := M.roB HO170 hb; have n1_ := Aside0.mk (Kd.R_lower ho182 (below_size (M.up HB))); have n2_ := M.bkB zae hb; have n3_ := M.bkB zaY hb; have n4_ := M.upS HB hb; clear HO170 zae zaY HB; have HO170 := n0_; have HO174 := n1_; have zae := n2_; have zaY := n3_; have HB := n4_; clear n0_ n1_ n2_ n3_ n4_; clear hb ho182; obtain ⟨Ao183, co183, eo183⟩ := Kd.R_slice HO174.out; subst eo183; obtain ⟨Ao184, co184, eo184⟩ := Kd.R_slice HO170.out; subst eo184) | ((with_reducible refine gate_dst (N := 14) rfl ?_); (try (refine gate_guard (by rfl) ?_; dsimp only)); refine box_event ?hg (N := 14) ?hd (cs := #[.int .i64 0, .slice none 0 0, .slice none 0 0]) (t := 25) ?hr ?_; (case hd => rfl); (case hg => rfl); (case hr => first | (go_simp; done) | (go_simp; rfl)); intro zbh hg w185 hbox hb; have n0_ := M.roB HO170 hb; have n1_ := M.roB HO174 hb; have n2_ := M.bkB zae hb; have n3_ := M.bkB zaY hb; have n4_ := M.upS HB hb; have n5_ := Aside0.mk (hbox); have n6_ := M.upG HB hg; have n7_ := M.upG HB hg; have n8_ := M.bkL zae hg; have n9_ := M.bkG zae hg; have n10_ := M.bkL zaY hg; have n11_ := M.bkG zaY hg; clear HO170 HO174 zae zaY HB; have HO170 := n0_; have HO174 := n1_; have zae := n2_; have zaY := n3_; have HB := n4_; have zbi := n5_; have zbj := n6_; have zbk := n7_; have zbl := n8_; have zbm := n9_; have zbn := n10_; have zbo := n11_; clear n0_ n1_ n2_ n3_ n4_ n5_ n6_ n7_ n8_ n9_ n10_ n11_; clear hb hbox hg; have zdP := zbm.out; have zdQ := zbl.out; have zdR := zbo.out; have zdS := zbn.out; obtain ⟨zdT, zdU, zdV⟩ := M.bc3 (w := w185) (a := .int .i64 0) (b := .slice none 0 0) (c := .slice none 0 0) zbi.out; obtain ⟨zdW, zdX, zdY⟩ := M.bf3 zbi))
            have n0_ : Aside0 (Kd.R k29 29 (((w185.setCell ⟨zbh, 0, none⟩ (.int .i64 a3)).setCell ⟨zbh, 1, none⟩ (.slice Ao184 y168.length co184)).setCell ⟨zbh, 2, none⟩ (.slice Ao183 y172.length co183)) w.heap.size (fun _ => True) (.slice Ao184 y168.length co184) y168) := ⟨by (with_reducible repeat (first | apply Kd.R_alloc | apply Kd.R_drewN | apply Kd.R_drew)); exact Kd.R_mono (Kd.R_far (p := ⟨zbh, 2, none⟩) (Kd.R_far (p := ⟨zbh, 1, none⟩) (Kd.R_far (p := ⟨zbh, 0, none⟩) (Kd.R_types HO170.out zbi.out (by decide)) (fun _ hk => hk.2) (.int .i64 a3)) (fun _ hk => hk.2) (.slice Ao184 y168.length co184)) (fun _ hk => hk.2) (.slice Ao183 y172.length co183)) (fun _ hk => trivial)⟩
            have n1_ : Aside0 (Kd.R (Kd.int .i64) 3 (((w185.setCell ⟨zbh, 0, none⟩ (.int .i64 a3)).setCell ⟨zbh, 1, none⟩ (.slice Ao184 y168.length co184)).setCell ⟨zbh, 2, none⟩ (.slice Ao183 y172.length co183)) w.heap.size (fun _ => True) (.slice Ao183 y172.length co183) y172) := ⟨by (with_reducible repeat (first | apply Kd.R_alloc | apply Kd.R_drewN | apply Kd.R_drew)); exact Kd.R_mono (Kd.R_far (p := ⟨zbh, 2, none⟩) (Kd.R_far (p := ⟨zbh, 1, none⟩) (Kd.R_far (p := ⟨zbh, 0, none⟩) (Kd.R_types HO174.out zbi.out (by decide)) (fun _ hk => hk.2) (.int .i64 a3)) (fun _ hk => hk.2) (.slice Ao184 y168.length co184)) (fun _ hk => hk.2) (.slice Ao183 y172.length co183)) (fun _ hk => trivial)⟩
            have n2_ : Aside0 ((((w185.setCell ⟨zbh, 0, none⟩ (.int .i64 a3)).setCell ⟨zbh, 1, none⟩ (.slice Ao184 y168.length co184)).setCell ⟨zbh, 2, none⟩ (.slice Ao183 y172.length co183)).heap[zad]? = some (.cells #[.int .i64 a0_0, .slice A0_1 l0_1.length c0_1, .slice A0_2 l0_2.length c0_2] 25 (0, 0))) := ⟨by (with_reducible repeat (first | refine blk_drewN ?_ _ | refine blk_drew ?_ | refine blk_alloc ?_ _)); refine blk_far ?_ zbl.out _; (with_reducible repeat (first | refine blk_drewN ?_ _ | refine blk_drew ?_ | refine blk_alloc ?_ _)); refine blk_far ?_ zbl.out _; (with_reducible repeat (first | refine blk_drewN ?_ _ | refine blk_drew ?_ | refine blk_alloc ?_ _)); refine blk_far ?_ zbl.out _; (with_reducible repeat (first | refine blk_drewN ?_ _ | refine blk_drew ?_ | refine blk_alloc ?_ _)); exact zae.out⟩
            have n3_ : Aside0 ((((w185.setCell ⟨zbh, 0, none⟩ (.int .i64 a3)).setCell ⟨zbh, 1, none⟩ (.slice Ao184 y168.length co184)).setCell ⟨zbh, 2, none⟩ (.slice Ao183 y172.length co183)).heap[zaX]? = some (.cells #[.string x10_1, .string a2, .int .i64 t166] 32 (0, 0))) := ⟨by (with_reducible repeat (first | refine blk_drewN ?_ _ | refine blk_drew ?_ | refine blk_alloc ?_ _)); refine blk_far ?_ zbn.out _; (with_reducible repeat (first | refine blk_drewN ?_ _ | refine blk_drew ?_ | refine blk_alloc ?_ _)); refine blk_far ?_ zbn.out _; (with_reducible repeat (first | refine blk_drewN ?_ _ | refine blk_drew ?_ | refine blk_alloc ?_ _)); refine blk_far ?_ zbn.out _; (with_reducible repeat (first | refine blk_drewN ?_ _ | refine blk_drew ?_ | refine blk_alloc ?_ _)); exact zaY.out⟩
            have n4_ : Aside0 ((((w185.setCell ⟨zbh, 0, none⟩ (.int .i64 a3)).setCell ⟨zbh, 1, none⟩ (.slice Ao184 y168.length co184)).setCell ⟨zbh, 2, none⟩ (.slice Ao183 y172.length co183)).heap[zbh]? = some (.cells #[.int .i64 a3, .slice Ao184 y168.length co184, .slice Ao183 y172.length co183] 25 (0, 0))) := ⟨by (with_reducible repeat (first | refine blk_drewN ?_ _ | refine blk_drew ?_ | refine blk_alloc ?_ _)); refine blk_put (cs := #[.int .i64 a3, .slice Ao184 y168.length co184, .slice none 0 0]) ?_ 2 _ rfl; (with_reducible repeat (first | refine blk_drewN ?_ _ | refine blk_drew ?_ | refine blk_alloc ?_ _)); refine blk_put (cs := #[.int .i64 a3, .slice none 0 0, .slice none 0 0]) ?_ 1 _ rfl; (with_reducible repeat (first | refine blk_drewN ?_ _ | refine blk_drew ?_ | refine blk_alloc ?_ _)); refine blk_put (cs := #[.int .i64 0, .slice none 0 0, .slice none 0 0]) ?_ 0 _ rfl; (with_reducible repeat (first | refine blk_drewN ?_ _ | refine blk_drew ?_ | refine blk_alloc ?_ _)); exact zbi.out⟩
            have n5_ : Aside0 (Below w.heap.size w (((w185.setCell ⟨zbh, 0, none⟩ (.int .i64 a3)).setCell ⟨zbh, 1, none⟩ (.slice Ao184 y168.length co184)).setCell ⟨zbh, 2, none⟩ (.slice Ao183 y172.length co183))) := ⟨M.up HB⟩
            (try clear HO170)
            (try clear HO174)
            (try clear zae)
            (try clear zaY)
            (try clear zbi)
            (try clear HB)
            generalize (((w185.setCell ⟨zbh, 0, none⟩ (.int .i64 a3)).setCell ⟨zbh, 1, none⟩ (.slice Ao184 y168.length co184)).setCell ⟨zbh, 2, none⟩ (.slice Ao183 y172.length co183)) = w189 at n0_ n1_ n2_ n3_ n4_ n5_ ⊢
            have HO170 := n0_
            have HO174 := n1_
            have zae := n2_
            have zaY := n3_
            have zbi := n4_
            have HB := n5_
            clear n0_ n1_ n2_ n3_ n4_ n5_
            have n0_ := Aside0.mk (Kd.R_drew HO170.out)
            have n1_ := Aside0.mk (Kd.R_drew HO174.out)
            have n2_ := Aside0.mk (blk_drew zae.out)
            have n3_ := Aside0.mk (blk_drew zaY.out)
            have n4_ := Aside0.mk (blk_drew zbi.out)
            have n5_ := Aside0.mk (below_drew1 HB.out)
            clear HO170 HO174 zae zaY zbi HB
            have HO170 := n0_
            have HO174 := n1_
            have zae := n2_
            have zaY := n3_
            have zbi := n4_
            have HB := n5_
            clear n0_ n1_ n2_ n3_ n4_ n5_
            refine start_ (n := 39) (S := fun w' => w'.cell? ⟨zad, 0, none⟩ = some (.int .i64 a0_0) ∧ w'.cell? ⟨zad, 1, none⟩ = some (.slice A0_1 l0_1.length c0_1) ∧ w'.cell? ⟨zad, 2, none⟩ = some (.slice A0_2 l0_2.length c0_2)) (ds := []) (M.tf [0, 39]) (by kernel_rfl) rfl rfl ⟨(blk_cell zae.out 0).trans rfl, (blk_cell zae.out 1).trans rfl, (blk_cell zae.out 2).trans rfl⟩ (fun hHeld => ?_); refine with_tabW pleachlaw19_ChunkTells.tab13 pleachlaw19_ChunkTells.bits13 (fun HT_ HW_ => ?_)
            generalize w189.drew = w190 at HO170 HO174 zae zaY zbi HB hHeld ⊢
            refine take_ (i := 0) (N := some 57) (v := ?_) (a' := ?_) (M.tf [1, 38]) rfl rfl (take_ofW HT_.out HW_.out (by kernel_rfl)) (fun _ _ _ h => h) (Or.inl ⟨by rfl, ?_⟩) hHeld ?_ ?_
            rotate_left
            · rintro w' ⟨s0, s1, s2⟩
              go_simp
              with_reducible rfl
            rotate_left
            · simp only [Act.put, List.setIfInBounds_toArray, List.set_cons_zero, List.set_cons_succ, i64_w, i32_w]
              rfl
            refine take_ (i := 2) (N := some 59) (v := ?_) (a' := ?_) (M.tf [1, 1, 1, 36]) rfl rfl (take_ofW HT_.out HW_.out (by kernel_rfl)) (fun _ _ _ h => h) (Or.inl ⟨by rfl, ?_⟩) hHeld ?_ ?_
            rotate_left
            · rintro w' ⟨s0, s1, s2⟩
              go_simp
              with_reducible rfl
            rotate_left
            · simp only [Act.put, List.setIfInBounds_toArray, List.set_cons_zero, List.set_cons_succ, i64_w, i32_w]
              rfl
            refine one_ (i := 1) (N := some 58) (M.tf [3, 36]) rfl rfl (one_of HT_.out (by kernel_rfl)) (by decide) (fun K hK => ?_)
            refine goes_ Try.func9 (by kernel_rfl) rfl #[.agg #[.int .i64 a0_0, .slice A0_1 l0_1.length c0_1, .slice A0_2 l0_2.length c0_2]] (by rfl) rfl rfl (by (try simp only [List.map_toArray, List.map_cons, List.map_nil]); first | done | rfl | (simp only [List.length_drop, List.length_take]; rfl)) ?_
            with_reducible refine (chunk_Total.calls k1 a0_0 _ _ l0_1 _ _ l0_2 t176 _ ?side1 ?side2 ?side3 ?side4 A27.out).mono ?_
            (case side1 => exact M.cB HR0_1 HB)
            (case side2 => exact HC0_1.out)
            (case side3 => exact M.cB HR0_2 HB)
            (case side4 => exact HC0_2.out)
            rintro e w191 ⟨rfl, hb⟩
            refine ⟨_, rfl, ?_⟩
            have n0_ := M.roB HO170 hb
            have n1_ := M.roB HO174 hb
            have n2_ := M.bkB zae hb
            have n3_ := M.bkB zaY hb
            have n4_ := M.bkB zbi hb
            have n5_ := M.upS HB hb
            clear HO170 HO174 zae zaY zbi HB
            have HO170 := n0_
            have HO174 := n1_
            have zae := n2_
            have zaY := n3_
            have zbi := n4_
            have HB := n5_
            clear n0_ n1_ n2_ n3_ n4_ n5_
            (try clear hb)
            (try clear hb2)
            (try clear hk)
            (try clear hi)
            refine hK.out _ _ ⟨(blk_cell zae.out 0).trans rfl, (blk_cell zae.out 1).trans rfl, (blk_cell zae.out 2).trans rfl⟩ (fun hHeld => ?_)
            clear hK K
            refine norm_ (a' := ?_) ?_ ?_
            rotate_left
            · show Act.put _ (some 58) _ = _
              simp only [Act.put, List.setIfInBounds_toArray, List.set_cons_zero, List.set_cons_succ, i64_w, i32_w]
              rfl
            refine one_ (i := 3) (N := some 60) (M.tf [4, 35]) rfl rfl (one_of HT_.out (by kernel_rfl)) (by decide) (fun K hK => ?_)
            refine goes_ Try.func8 (by kernel_rfl) rfl #[.agg #[.int .i64 a0_0, .slice A0_1 l0_1.length c0_1, .slice A0_2 l0_2.length c0_2]] (by rfl) rfl rfl (by (try simp only [List.map_toArray, List.map_cons, List.map_nil]); first | done | rfl | (simp only [List.length_drop, List.length_take]; rfl)) ?_
            with_reducible refine (pleachref19_Total.calls k1 a0_0 _ _ l0_1 _ _ l0_2 t177 _ ?side1 ?side2 ?side3 ?side4 A28.out).mono ?_
            (case side1 => exact M.cB HR0_1 HB)
            (case side2 => exact HC0_1.out)
            (case side3 => exact M.cB HR0_2 HB)
            (case side4 => exact HC0_2.out)
            rintro e w192 ⟨rfl, hb⟩
            refine ⟨_, rfl, ?_⟩
            have n0_ := M.roB HO170 hb
            have n1_ := M.roB HO174 hb
            have n2_ := M.bkB zae hb
            have n3_ := M.bkB zaY hb
            have n4_ := M.bkB zbi hb
            have n5_ := M.upS HB hb
            clear HO170 HO174 zae zaY zbi HB
            have HO170 := n0_
            have HO174 := n1_
            have zae := n2_
            have zaY := n3_
            have zbi := n4_
            have HB := n5_
            clear n0_ n1_ n2_ n3_ n4_ n5_
            (try clear hb)
            (try clear hb2)
            (try clear hk)
            (try clear hi)
            refine hK.out _ _ ⟨(blk_cell zae.out 0).trans rfl, (blk_cell zae.out 1).trans rfl, (blk_cell zae.out 2).trans rfl⟩ (fun hHeld => ?_)
            clear hK K
            refine norm_ (a' := ?_) ?_ ?_
            rotate_left
            · show Act.put _ (some 60) _ = _
              simp only [Act.put, List.setIfInBounds_toArray, List.set_cons_zero, List.set_cons_succ, i64_w, i32_w]
              rfl
            refine pure_ (i := 4) (N := some 61) (v := ?_) (a' := ?_) (M.tf [5, 34]) rfl rfl (any_of HT_.out (by kernel_rfl)) (fun _ _ _ h => h) (Or.inl ⟨by rfl, ?_⟩) ?_ ?_
            rotate_left
            · intro w'
              go_simp
              with_reducible rfl
            rotate_left
            · simp only [Act.put, List.setIfInBounds_toArray, List.set_cons_zero, List.set_cons_succ, i64_w, i32_w]
              rfl
            refine pure_ (i := 5) (N := some 62) (v := ?_) (a' := ?_) (M.tf [6, 33]) rfl rfl (any_of HT_.out (by kernel_rfl)) (fun _ _ _ h => h) (Or.inl ⟨by rfl, ?_⟩) ?_ ?_
            rotate_left
            · intro w'
              go_simp
              with_reducible rfl
            rotate_left
            · simp only [Act.put, List.setIfInBounds_toArray, List.set_cons_zero, List.set_cons_succ, i64_w, i32_w]
              rfl
            refine pure_ (i := 6) (N := some 63) (v := undef) (a' := ?_) (M.tf [7, 32]) rfl rfl (any_of HT_.out (by kernel_rfl)) (fun _ _ _ h => h) (Or.inr ⟨by rfl, rfl⟩) ?_ ?_
            rotate_left
            · simp only [Act.put, List.setIfInBounds_toArray, List.set_cons_zero, List.set_cons_succ, i64_w, i32_w]
              rfl
            refine pure_ (i := 7) (N := some 64) (v := undef) (a' := ?_) (M.tf [8, 31]) rfl rfl (any_of HT_.out (by kernel_rfl)) (fun _ _ _ h => h) (Or.inr ⟨by rfl, rfl⟩) ?_ ?_
            rotate_left
            · simp only [Act.put, List.setIfInBounds_toArray, List.set_cons_zero, List.set_cons_succ, i64_w, i32_w]
              rfl
            refine pure_ (i := 8) (N := some 65) (v := undef) (a' := ?_) (M.tf [9, 30]) rfl rfl (any_of HT_.out (by kernel_rfl)) (fun _ _ _ h => h) (Or.inr ⟨by rfl, rfl⟩) ?_ ?_
            rotate_left
            · simp only [Act.put, List.setIfInBounds_toArray, List.set_cons_zero, List.set_cons_succ, i64_w, i32_w]
              rfl
            refine pure_ (i := 9) (N := some 66) (v := undef) (a' := ?_) (M.tf [10, 29]) rfl rfl (any_of HT_.out (by kernel_rfl)) (fun _ _ _ h => h) (Or.inr ⟨by rfl, rfl⟩) ?_ ?_
            rotate_left
            · simp only [Act.put, List.setIfInBounds_toArray, List.set_cons_zero, List.set_cons_succ, i64_w, i32_w]
              rfl
            refine pure_ (i := 10) (N := some 67) (v := ?_) (a' := ?_) (M.tf [11, 28]) rfl rfl (any_of HT_.out (by kernel_rfl)) (fun _ _ _ h => h) (Or.inl ⟨by rfl, ?_⟩) ?_ ?_
            rotate_left
            · intro w'
              go_simp
              with_reducible rfl
            rotate_left
            · simp only [Act.put, List.setIfInBounds_toArray, List.set_cons_zero, List.set_cons_succ, i64_w, i32_w]
              rfl
            refine pure_ (i := 11) (N := some 68) (v := ?_) (a' := ?_) (M.tf [12, 27]) rfl rfl (any_of HT_.out (by kernel_rfl)) (fun _ _ _ h => h) (Or.inl ⟨by rfl, ?_⟩) ?_ ?_
            rotate_left
            · intro w'
              go_simp
              with_reducible rfl
            rotate_left
            · simp only [Act.put, List.setIfInBounds_toArray, List.set_cons_zero, List.set_cons_succ, i64_w, i32_w]
              rfl
            refine pure_ (i := 12) (N := some 69) (v := undef) (a' := ?_) (M.tf [13, 26]) rfl rfl (any_of HT_.out (by kernel_rfl)) (fun _ _ _ h => h) (Or.inr ⟨by rfl, rfl⟩) ?_ ?_
            rotate_left
            · simp only [Act.put, List.setIfInBounds_toArray, List.set_cons_zero, List.set_cons_succ, i64_w, i32_w]
              rfl
            refine pure_ (i := 13) (N := some 70) (v := undef) (a' := ?_) (M.tf [14, 25]) rfl rfl (any_of HT_.out (by kernel_rfl)) (fun _ _ _ h => h) (Or.inr ⟨by rfl, rfl⟩) ?_ ?_
            rotate_left
            · simp only [Act.put, List.setIfInBounds_toArray, List.set_cons_zero, List.set_cons_succ, i64_w, i32_w]
              rfl
            refine pure_ (i := 14) (N := some 71) (v := undef) (a' := ?_) (M.tf [15, 24]) rfl rfl (any_of HT_.out (by kernel_rfl)) (fun _ _ _ h => h) (Or.inr ⟨by rfl, rfl⟩) ?_ ?_
            rotate_left
            · simp only [Act.put, List.setIfInBounds_toArray, List.set_cons_zero, List.set_cons_succ, i64_w, i32_w]
              rfl
            refine pure_ (i := 15) (N := some 72) (v := undef) (a' := ?_) (M.tf [16, 23]) rfl rfl (any_of HT_.out (by kernel_rfl)) (fun _ _ _ h => h) (Or.inr ⟨by rfl, rfl⟩) ?_ ?_
            rotate_left
            · simp only [Act.put, List.setIfInBounds_toArray, List.set_cons_zero, List.set_cons_succ, i64_w, i32_w]
              rfl
            refine pure_ (i := 16) (N := some 73) (v := undef) (a' := ?_) (M.tf [17, 22]) rfl rfl (any_of HT_.out (by kernel_rfl)) (fun _ _ _ h => h) (Or.inr ⟨by rfl, rfl⟩) ?_ ?_
            rotate_left
            · simp only [Act.put, List.setIfInBounds_toArray, List.set_cons_zero, List.set_cons_succ, i64_w, i32_w]
              rfl
            refine pure_ (i := 17) (N := some 74) (v := ?_) (a' := ?_) (M.tf [18, 21]) rfl rfl (any_of HT_.out (by kernel_rfl)) (fun _ _ _ h => h) (Or.inl ⟨by rfl, ?_⟩) ?_ ?_
            rotate_left
            · intro w'
              go_simp
              with_reducible rfl
            rotate_left
            · simp only [Act.put, List.setIfInBounds_toArray, List.set_cons_zero, List.set_cons_succ, i64_w, i32_w]
              rfl
            refine pure_ (i := 18) (N := some 75) (v := ?_) (a' := ?_) (M.tf [19, 20]) rfl rfl (any_of HT_.out (by kernel_rfl)) (fun _ _ _ h => h) (Or.inl ⟨by rfl, ?_⟩) ?_ ?_
            rotate_left
            · intro w'
              go_simp
              with_reducible rfl
            rotate_left
            · simp only [Act.put, List.setIfInBounds_toArray, List.set_cons_zero, List.set_cons_succ, i64_w, i32_w]
              rfl
            refine pure_ (i := 19) (N := some 76) (v := undef) (a' := ?_) (M.tf [20, 19]) rfl rfl (any_of HT_.out (by kernel_rfl)) (fun _ _ _ h => h) (Or.inr ⟨by rfl, rfl⟩) ?_ ?_
            rotate_left
            · simp only [Act.put, List.setIfInBounds_toArray, List.set_cons_zero, List.set_cons_succ, i64_w, i32_w]
              rfl
            refine pure_ (i := 20) (N := some 77) (v := undef) (a' := ?_) (M.tf [21, 18]) rfl rfl (any_of HT_.out (by kernel_rfl)) (fun _ _ _ h => h) (Or.inr ⟨by rfl, rfl⟩) ?_ ?_
            rotate_left
            · simp only [Act.put, List.setIfInBounds_toArray, List.set_cons_zero, List.set_cons_succ, i64_w, i32_w]
              rfl
            refine pure_ (i := 21) (N := some 78) (v := undef) (a' := ?_) (M.tf [22, 17]) rfl rfl (any_of HT_.out (by kernel_rfl)) (fun _ _ _ h => h) (Or.inr ⟨by rfl, rfl⟩) ?_ ?_
            rotate_left
            · simp only [Act.put, List.setIfInBounds_toArray, List.set_cons_zero, List.set_cons_succ, i64_w, i32_w]
              rfl
            refine pure_ (i := 22) (N := some 79) (v := undef) (a' := ?_) (M.tf [23, 16]) rfl rfl (any_of HT_.out (by kernel_rfl)) (fun _ _ _ h => h) (Or.inr ⟨by rfl, rfl⟩) ?_ ?_
            rotate_left
            · simp only [Act.put, List.setIfInBounds_toArray, List.set_cons_zero, List.set_cons_succ, i64_w, i32_w]
              rfl
            refine pure_ (i := 23) (N := some 80) (v := undef) (a' := ?_) (M.tf [24, 15]) rfl rfl (any_of HT_.out (by kernel_rfl)) (fun _ _ _ h => h) (Or.inr ⟨by rfl, rfl⟩) ?_ ?_
            rotate_left
            · simp only [Act.put, List.setIfInBounds_toArray, List.set_cons_zero, List.set_cons_succ, i64_w, i32_w]
              rfl
            refine pure_ (i := 24) (N := some 81) (v := ?_) (a' := ?_) (M.tf [25, 14]) rfl rfl (any_of HT_.out (by kernel_rfl)) (fun _ _ _ h => h) (Or.inl ⟨by rfl, ?_⟩) ?_ ?_
            rotate_left
            · intro w'
              go_simp
              with_reducible rfl
            rotate_left
            · simp only [Act.put, List.setIfInBounds_toArray, List.set_cons_zero, List.set_cons_succ, i64_w, i32_w]
              rfl
            refine pure_ (i := 25) (N := some 82) (v := ?_) (a' := ?_) (M.tf [26, 13]) rfl rfl (any_of HT_.out (by kernel_rfl)) (fun _ _ _ h => h) (Or.inl ⟨by rfl, ?_⟩) ?_ ?_
            rotate_left
            · intro w'
              go_simp
              with_reducible rfl
            rotate_left
            · simp only [Act.put, List.setIfInBounds_toArray, List.set_cons_zero, List.set_cons_succ, i64_w, i32_w]
              rfl
            refine pure_ (i := 26) (N := some 83) (v := undef) (a' := ?_) (M.tf [27, 12]) rfl rfl (any_of HT_.out (by kernel_rfl)) (fun _ _ _ h => h) (Or.inr ⟨by rfl, rfl⟩) ?_ ?_
            rotate_left
            · simp only [Act.put, List.setIfInBounds_toArray, List.set_cons_zero, List.set_cons_succ, i64_w, i32_w]
              rfl
            refine pure_ (i := 27) (N := some 84) (v := undef) (a' := ?_) (M.tf [28, 11]) rfl rfl (any_of HT_.out (by kernel_rfl)) (fun _ _ _ h => h) (Or.inr ⟨by rfl, rfl⟩) ?_ ?_
            rotate_left
            · simp only [Act.put, List.setIfInBounds_toArray, List.set_cons_zero, List.set_cons_succ, i64_w, i32_w]
              rfl
            refine pure_ (i := 28) (N := some 85) (v := undef) (a' := ?_) (M.tf [29, 10]) rfl rfl (any_of HT_.out (by kernel_rfl)) (fun _ _ _ h => h) (Or.inr ⟨by rfl, rfl⟩) ?_ ?_
            rotate_left
            · simp only [Act.put, List.setIfInBounds_toArray, List.set_cons_zero, List.set_cons_succ, i64_w, i32_w]
              rfl
            refine pure_ (i := 29) (N := some 86) (v := undef) (a' := ?_) (M.tf [30, 9]) rfl rfl (any_of HT_.out (by kernel_rfl)) (fun _ _ _ h => h) (Or.inr ⟨by rfl, rfl⟩) ?_ ?_
            rotate_left
            · simp only [Act.put, List.setIfInBounds_toArray, List.set_cons_zero, List.set_cons_succ, i64_w, i32_w]
              rfl
            refine pure_ (i := 30) (N := some 87) (v := undef) (a' := ?_) (M.tf [31, 8]) rfl rfl (any_of HT_.out (by kernel_rfl)) (fun _ _ _ h => h) (Or.inr ⟨by rfl, rfl⟩) ?_ ?_
            rotate_left
            · simp only [Act.put, List.setIfInBounds_toArray, List.set_cons_zero, List.set_cons_succ, i64_w, i32_w]
              rfl
            refine pure_ (i := 31) (N := some 88) (v := undef) (a' := ?_) (M.tf [32, 7]) rfl rfl (any_of HT_.out (by kernel_rfl)) (fun _ _ _ h => h) (Or.inr ⟨by rfl, rfl⟩) ?_ ?_
            rotate_left
            · simp only [Act.put, List.setIfInBounds_toArray, List.set_cons_zero, List.set_cons_succ, i64_w, i32_w]
              rfl
            refine pure_ (i := 32) (N := some 89) (v := undef) (a' := ?_) (M.tf [33, 6]) rfl rfl (any_of HT_.out (by kernel_rfl)) (fun _ _ _ h => h) (Or.inr ⟨by rfl, rfl⟩) ?_ ?_
            rotate_left
            · simp only [Act.put, List.setIfInBounds_toArray, List.set_cons_zero, List.set_cons_succ, i64_w, i32_w]
              rfl
            refine pure_ (i := 33) (N := some 90) (v := undef) (a' := ?_) (M.tf [34, 5]) rfl rfl (any_of HT_.out (by kernel_rfl)) (fun _ _ _ h => h) (Or.inr ⟨by rfl, rfl⟩) ?_ ?_
            rotate_left
            · simp only [Act.put, List.setIfInBounds_toArray, List.set_cons_zero, List.set_cons_succ, i64_w, i32_w]
              rfl
            refine pure_ (i := 34) (N := some 91) (v := ?_) (a' := ?_) (M.tf [35, 4]) rfl rfl (any_of HT_.out (by kernel_rfl)) (fun _ _ _ h => h) (Or.inl ⟨by rfl, ?_⟩) ?_ ?_
            rotate_left
            · intro w'
              go_simp
              with_reducible rfl
            rotate_left
            · simp only [Act.put, List.setIfInBounds_toArray, List.set_cons_zero, List.set_cons_succ, i64_w, i32_w]
              rfl
            refine pure_ (i := 35) (N := some 92) (v := ?_) (a' := ?_) (M.tf [36, 3]) rfl rfl (any_of HT_.out (by kernel_rfl)) (fun _ _ _ h => h) (Or.inl ⟨by rfl, ?_⟩) ?_ ?_
            rotate_left
            · intro w'
              go_simp
              with_reducible rfl
            rotate_left
            · simp only [Act.put, List.setIfInBounds_toArray, List.set_cons_zero, List.set_cons_succ, i64_w, i32_w]
              rfl
            refine pure_ (i := 36) (N := some 93) (v := undef) (a' := ?_) (M.tf [37, 2]) rfl rfl (any_of HT_.out (by kernel_rfl)) (fun _ _ _ h => h) (Or.inr ⟨by rfl, rfl⟩) ?_ ?_
            rotate_left
            · simp only [Act.put, List.setIfInBounds_toArray, List.set_cons_zero, List.set_cons_succ, i64_w, i32_w]
              rfl
            refine pure_ (i := 37) (N := some 94) (v := ?_) (a' := ?_) (M.tf [38, 1]) rfl rfl (any_of HT_.out (by kernel_rfl)) (fun _ _ _ h => h) (Or.inl ⟨by rfl, ?_⟩) ?_ ?_
            rotate_left
            · intro w'
              go_simp
              with_reducible rfl
            rotate_left
            · simp only [Act.put, List.setIfInBounds_toArray, List.set_cons_zero, List.set_cons_succ, i64_w, i32_w]
              rfl
            refine pure_ (i := 38) (N := some 8) (v := ?_) (a' := ?_) (M.tf [39]) rfl rfl (any_of HT_.out (by kernel_rfl)) (fun _ _ _ h => h) (Or.inl ⟨by rfl, ?_⟩) ?_ ?_
            rotate_left
            · intro w'
              go_simp
              with_reducible rfl
            rotate_left
            · simp only [Act.put, List.setIfInBounds_toArray, List.set_cons_zero, List.set_cons_succ, i64_w, i32_w]
              rfl
            refine done_ (done_of HT_.out (by kernel_rfl)) ?_
            try go_wp2
            go_ret
            exact M.fin (M.up HB)
  · replace c6 := Bool.eq_false_iff.mpr c6
    subst c6
    have H1 : ((pleachlaw19_awake.f).bind fun t163 => (some t163)) = some r := by rw [if_neg (show ¬ (false = true) by decide)] at H; exact H
    clear H
    have H := H1
    clear H1
    replace H := Option.bind_eq_some_iff.mp H
    obtain ⟨t163, A1930, H⟩ := H
    replace H : (some t163) = some r := H
    have A193 := Aside0.mk A1930
    clear A1930
    obtain rfl := Option.some.inj H
    go_enter Try.func3, Try.ntmps3
    go_wp2_with (first | ((with_reducible refine gate_dst (N := 4) rfl ?_); (try (refine gate_guard (by rfl) ?_; dsimp only)); refine box_event ?hg (N := 4) ?hd (cs := #[.int .i64 a0_0, .slice A0_1 l0_1.length c0_1, .slice A0_2 l0_2.length c0_2]) (t := 25) ?hr ?_; (case hd => rfl); (case hg => rfl); (case hr => first | (go_simp; done) | (go_simp; rfl)); intro zad hg w194 hbox hb; have n0_ := M.upS HB hb; have n1_ := Aside0.mk (hbox); have n2_ := M.upG HB hg; have n3_ := M.upG HB hg; clear HB; have HB := n0_; have zae := n1_; have zaf := n2_; have zag := n3_; clear n0_ n1_ n2_ n3_; clear hb hbox hg; obtain ⟨zdZ, zd0, zd1⟩ := M.bc3 (w := w194) (a := .int .i64 a0_0) (b := .slice A0_1 l0_1.length c0_1) (c := .slice A0_2 l0_2.length c0_2) zae.out; obtain ⟨zd2, zd3, zd4⟩ := M.bf3 zae) | ((with_reducible refine gate_callee (f := 6) rfl ?_); refine M.goes (some 16) Try.func6 #[.agg #[.int .i64 a0_0, .slice A0_1 l0_1.length c0_1, .slice A0_2 l0_2.length c0_2]] rfl ?_; (with_reducible refine (pleachlaw19_few.calls k a0_0 _ _ l0_1 _ _ l0_2 false _ ?side1 ?side2 ?side3 ?side4 A5.out).mono ?_); (case side1 => exact M.cB HR0_1 HB); (case side2 => exact HC0_1.out); (case side3 => exact M.cB HR0_2 HB); (case side4 => exact HC0_2.out); rintro e w196 ⟨rfl, hb⟩; refine ⟨_, rfl, ?_⟩; have n0_ := M.bkB zae hb; have n1_ := M.upS HB hb; clear zae HB; have zae := n0_; have HB := n1_; clear n0_ n1_; (try clear hb)) | ((with_reducible refine gate_callee (f := 7) rfl ?_); refine M.goes (some 18) Try.func7 #[] rfl ?_; (with_reducible refine (pleachlaw19_awake.calls  t163 _ A193.out).mono ?_); rintro e w197 ⟨rfl, hb⟩; refine ⟨_, rfl, ?_⟩; have n0_ := M.bkB zae hb; have n1_ := M.upS HB hb; clear zae HB; have zae := n0_; have HB := n1_; clear n0_ n1_; (try clear hb)))
    go_ret
    exact M.fin (M.up HB)

/-- What is known of a record that came in. -/
def Good29 (x : S29) : Prop := (x.f0.size ≤ 9223372036854775807) ∧ (x.f1.size ≤ 9223372036854775807)
/-- THE ONE PURE STATEMENT of pleachlaw19_ChunkTells: this session's form. -/
def pleachlaw19_ChunkTells.Pure : Prop := ∀ (a0_0 : Int) (l0_1 : List (S29)) (l0_2 : List Int) (a1 : ByteArray) (a2 : ByteArray) (a3 : Int), ((Lit.int .i64 a0_0).wf = true) → ((∀ y ∈ l0_1, Good29 y) ∧ l0_1.length ≤ 9223372036854775807) → ((∀ y ∈ l0_2, (Lit.int .i64 y).wf = true) ∧ l0_2.length ≤ 9223372036854775807) → (a1.size ≤ 140737488351232) → (a2.size ≤ 140737488351232) → ((Lit.int .i64 a3).wf = true) → ∃ k, pleachlaw19_ChunkTells.f k a0_0 l0_1 l0_2 a1 a2 a3 = some true

end Go.Proofs.Ytccppdpmfegndaa.EChunkTells
