-- Written by this session's own program (wip/tools/ext.py) for this claim; Lean checks it.
import Derived.Test.YtacjpkfpniolmaaDoorEFrameTakesx0
import Derived.Test.YtacjpkfpniolmaaDoorEFrameTakesx4
namespace Go.Proofs.YtacjpkfpniolmaaDoor.EFrameTakes
open Go.RowKit Go.Proofs.YtacjpkfpniolmaaDoorW.PrintWords Go.Proofs.YtacjpkfpniolmaaDoorW.PrintLast Go.Proofs.YtacjpkfpniolmaaDoorW.PrintMore
attribute [local go_sem] M.run_leq M.run_gtr M.run_geq max2_int min2_int max_two min_two max_three min_three max_four min_four   -- for this text's walks alone
set_option linter.unusedVariables false
set_option linter.unusedSimpArgs false

/-! ### pleachref04_Text_p: function 35 -/
def pleachref04_Text_p.f (a0_0 : ByteArray) (a0_1 : Int) (a0_2 : Int) (a1 : Int) : Option (ByteArray × Int × Int × ByteArray) := (pleachref04_Num.f a0_0 a0_1 a0_2 a1).bind fun bt222 => (if bt222.2.2.1 = 0 then ((pleachref04_fix.f bt222.1 bt222.2.1 bt222.2.2.1 bt222.2.2.2).bind fun bt226 => (some (bt226.1, bt226.2.1, bt226.2.2.1, bt226.2.2.2))) else (some (bt222.1, bt222.2.1, bt222.2.2.1, (⟨#[]⟩ : ByteArray))))
set_option maxHeartbeats 8000000 in
set_option maxRecDepth 100000 in
theorem pleachref04_Text_p.calls (a0_0 : ByteArray) (a0_1 : Int) (a0_2 : Int) (a1 : Int) (r1 : ByteArray) (r2 : Int) (r3 : Int) (r4 : ByteArray) (w : World) (h : pleachref04_Text_p.f a0_0 a0_1 a0_2 a1 = some (r1, r2, r3, r4)) :
    Calls Tryd.prog 35 #[.agg #[.string a0_0, .int .i64 a0_1, .int .i64 a0_2], .int .i64 a1] w fun e w' => e = .returned (.tuple #[.agg #[.string r1, .int .i64 r2, .int .i64 r3], .string r4]) ∧ Below w.heap.size w w' := by
  have hu39 := Tryd.underlying39
  have HB := Aside0.mk (Below.refl w.heap.size w)
  have H : ((pleachref04_Num.f a0_0 a0_1 a0_2 a1).bind fun bt222 => (if bt222.2.2.1 = 0 then ((pleachref04_fix.f bt222.1 bt222.2.1 bt222.2.2.1 bt222.2.2.2).bind fun bt226 => (some (bt226.1, bt226.2.1, bt226.2.2.1, bt226.2.2.2))) else (some (bt222.1, bt222.2.1, bt222.2.2.1, (⟨#[]⟩ : ByteArray))))) = some (r1, r2, r3, r4) := h
  clear h
  replace H := Option.bind_eq_some_iff.mp H
  obtain ⟨⟨t222, t223, t224, t225⟩, A30, H⟩ := H
  replace H : (if t224 = 0 then ((pleachref04_fix.f t222 t223 t224 t225).bind fun bt226 => (some (bt226.1, bt226.2.1, bt226.2.2.1, bt226.2.2.2))) else (some (t222, t223, t224, (⟨#[]⟩ : ByteArray)))) = some (r1, r2, r3, r4) := H
  have A3 := Aside0.mk A30
  clear A30
  by_cases c4 : t224 = 0
  · rw [if_pos c4] at H
    have c4b0 : (t224 == 0) = true := beq_iff_eq.mpr c4
    have c4b1 : (t224 != 0) = false := bne_eq_false_iff_eq.mpr c4
    clear c4
    replace H := Option.bind_eq_some_iff.mp H
    obtain ⟨⟨t226, t227, t228, t229⟩, A50, H⟩ := H
    replace H : (some (t226, t227, t228, t229)) = some (r1, r2, r3, r4) := H
    have A5 := Aside0.mk A50
    clear A50
    simp only [Option.some.injEq, Prod.mk.injEq] at H
    obtain ⟨rfl, rfl, rfl, rfl⟩ := H
    go_enter Tryd.func35, Tryd.ntmps35
    go_wp2_with (first | ((with_reducible refine gate_dst (N := 2) rfl ?_); refine box_event ?hg (N := 2) ?hd (cs := #[.string a0_0, .int .i64 a0_1, .int .i64 a0_2]) (t := 39) ?hr ?_; (case hd => rfl); (case hg => rfl); (case hr => first | (go_simp; done) | (go_simp; rfl)); intro zaa hg w6 hbox hb; have n0_ := M.upS HB hb; have n1_ := Aside0.mk (hbox); have n2_ := M.upG HB hg; have n3_ := M.upG HB hg; clear HB; have HB := n0_; have zab := n1_; have zac := n2_; have zad := n3_; clear n0_ n1_ n2_ n3_; clear hb hbox hg) | ((with_reducible refine gate_dst (N := 4) rfl ?_); refine box_event ?hg (N := 4) ?hd (cs := #[.string (⟨#[]⟩ : ByteArray), .int .i64 0, .int .i64 0]) (t := 39) ?hr ?_; (case hd => rfl); (case hg => rfl); (case hr => first | (go_simp; done) | (go_simp; rfl)); intro zae hg w7 hbox hb; have n0_ := M.bkB zab hb; have n1_ := M.upS HB hb; have n2_ := Aside0.mk (hbox); have n3_ := M.upG HB hg; have n4_ := M.upG HB hg; have n5_ := M.bkL zab hg; have n6_ := M.bkG zab hg; clear zab HB; have zab := n0_; have HB := n1_; have zaf := n2_; have zag := n3_; have zah := n4_; have zai := n5_; have zaj := n6_; clear n0_ n1_ n2_ n3_ n4_ n5_ n6_; clear hb hbox hg; have zak := zai.out; have zal := zaj.out; obtain ⟨zam, zan, zao⟩ := M.bc3 (w := w7) (a := .string a0_0) (b := .int .i64 a0_1) (c := .int .i64 a0_2) zab.out; obtain ⟨zap, zaq, zar⟩ := M.bf3 zab) | ((with_reducible refine gate_callee (f := 45) rfl ?_); refine M.goes (some 10) Tryd.func45 #[.agg #[.string a0_0, .int .i64 a0_1, .int .i64 a0_2], .int .i64 a1] rfl ?_; (with_reducible refine (pleachref04_Num.calls a0_0 a0_1 a0_2 a1 t222 t223 t224 t225 _ A3.out).mono ?_); rintro e w10 ⟨rfl, hb⟩; refine ⟨_, rfl, ?_⟩; have n0_ := M.bkB zab hb; have n1_ := M.bkB zaf hb; have n2_ := M.upS HB hb; clear zab zaf HB; have zab := n0_; have zaf := n1_; have HB := n2_; clear n0_ n1_ n2_; (try clear hb); obtain ⟨zas, zat, zau⟩ := M.bc3 (w := w10) (a := .string a0_0) (b := .int .i64 a0_1) (c := .int .i64 a0_2) zab.out; obtain ⟨zav, zaw, zax⟩ := M.bf3 zab) | ((with_reducible refine gate_callee (f := 46) rfl ?_); refine M.goes (some 19) Tryd.func46 #[.agg #[.string t222, .int .i64 t223, .int .i64 t224], .int .i64 t225] rfl ?_; (with_reducible refine (pleachref04_fix.calls t222 t223 t224 t225 t226 t227 t228 t229 _ A5.out).mono ?_); rintro e w12 ⟨rfl, hb⟩; refine ⟨_, rfl, ?_⟩; have n0_ := Aside0.mk (blk_below (g := zaa) (o := .cells #[.string t222, .int .i64 t223, .int .i64 t224] 39 (0, 0)) (by (with_reducible repeat (first | refine blk_drewN ?_ _ | refine blk_drew ?_ | refine blk_alloc ?_ _)); refine blk_put (cs := #[.string t222, .int .i64 t223, .int .i64 a0_2]) ?_ 2 _ rfl; (with_reducible repeat (first | refine blk_drewN ?_ _ | refine blk_drew ?_ | refine blk_alloc ?_ _)); refine blk_put (cs := #[.string t222, .int .i64 a0_1, .int .i64 a0_2]) ?_ 1 _ rfl; (with_reducible repeat (first | refine blk_drewN ?_ _ | refine blk_drew ?_ | refine blk_alloc ?_ _)); refine blk_put (cs := #[.string a0_0, .int .i64 a0_1, .int .i64 a0_2]) ?_ 0 _ rfl; (with_reducible repeat (first | refine blk_drewN ?_ _ | refine blk_drew ?_ | refine blk_alloc ?_ _)); exact zab.out) hb); have n1_ := Aside0.mk (blk_below (g := zae) (o := .cells #[.string (⟨#[]⟩ : ByteArray), .int .i64 0, .int .i64 0] 39 (0, 0)) (by (with_reducible repeat (first | refine blk_drewN ?_ _ | refine blk_drew ?_ | refine blk_alloc ?_ _)); refine blk_far ?_ zaj.out _; (with_reducible repeat (first | refine blk_drewN ?_ _ | refine blk_drew ?_ | refine blk_alloc ?_ _)); refine blk_far ?_ zaj.out _; (with_reducible repeat (first | refine blk_drewN ?_ _ | refine blk_drew ?_ | refine blk_alloc ?_ _)); refine blk_far ?_ zaj.out _; (with_reducible repeat (first | refine blk_drewN ?_ _ | refine blk_drew ?_ | refine blk_alloc ?_ _)); exact zaf.out) hb); have n2_ := M.upS HB hb; clear zab zaf HB; have zab := n0_; have zaf := n1_; have HB := n2_; clear n0_ n1_ n2_; (try clear hb); obtain ⟨zay, zaz, zaA⟩ := M.bc3 (w := w12) (a := .string (⟨#[]⟩ : ByteArray)) (b := .int .i64 0) (c := .int .i64 0) zaf.out; obtain ⟨zaB, zaC, zaD⟩ := M.bf3 zaf))
    refine bodyPost_ret (results_ct rfl _ _ zae 39 #[.string t226, .int .i64 t227, .int .i64 t228] (0, 0) _ rfl (by (with_reducible repeat (first | refine blk_drewN ?_ _ | refine blk_drew ?_ | refine blk_alloc ?_ _)); refine blk_put (cs := #[.string t226, .int .i64 t227, .int .i64 0]) ?_ 2 _ rfl; (with_reducible repeat (first | refine blk_drewN ?_ _ | refine blk_drew ?_ | refine blk_alloc ?_ _)); refine blk_put (cs := #[.string t226, .int .i64 0, .int .i64 0]) ?_ 1 _ rfl; (with_reducible repeat (first | refine blk_drewN ?_ _ | refine blk_drew ?_ | refine blk_alloc ?_ _)); refine blk_put (cs := #[.string (⟨#[]⟩ : ByteArray), .int .i64 0, .int .i64 0]) ?_ 0 _ rfl; (with_reducible repeat (first | refine blk_drewN ?_ _ | refine blk_drew ?_ | refine blk_alloc ?_ _)); exact zaf.out) Tryd.underlying39 rfl (by kernel_rfl)) rfl ?_
    exact M.fin (M.up HB)
  · rw [if_neg c4] at H
    have c4b0 : (t224 == 0) = false := beq_eq_false_iff_ne.mpr c4
    have c4b1 : (t224 != 0) = true := bne_iff_ne.mpr c4
    simp only [Option.some.injEq, Prod.mk.injEq] at H
    obtain ⟨rfl, rfl, rfl, rfl⟩ := H
    go_enter Tryd.func35, Tryd.ntmps35
    go_wp2_with (first | ((with_reducible refine gate_dst (N := 2) rfl ?_); refine box_event ?hg (N := 2) ?hd (cs := #[.string a0_0, .int .i64 a0_1, .int .i64 a0_2]) (t := 39) ?hr ?_; (case hd => rfl); (case hg => rfl); (case hr => first | (go_simp; done) | (go_simp; rfl)); intro zaa hg w14 hbox hb; have n0_ := M.upS HB hb; have n1_ := Aside0.mk (hbox); have n2_ := M.upG HB hg; have n3_ := M.upG HB hg; clear HB; have HB := n0_; have zab := n1_; have zac := n2_; have zad := n3_; clear n0_ n1_ n2_ n3_; clear hb hbox hg) | ((with_reducible refine gate_dst (N := 4) rfl ?_); refine box_event ?hg (N := 4) ?hd (cs := #[.string (⟨#[]⟩ : ByteArray), .int .i64 0, .int .i64 0]) (t := 39) ?hr ?_; (case hd => rfl); (case hg => rfl); (case hr => first | (go_simp; done) | (go_simp; rfl)); intro zae hg w15 hbox hb; have n0_ := M.bkB zab hb; have n1_ := M.upS HB hb; have n2_ := Aside0.mk (hbox); have n3_ := M.upG HB hg; have n4_ := M.upG HB hg; have n5_ := M.bkL zab hg; have n6_ := M.bkG zab hg; clear zab HB; have zab := n0_; have HB := n1_; have zaf := n2_; have zag := n3_; have zah := n4_; have zai := n5_; have zaj := n6_; clear n0_ n1_ n2_ n3_ n4_ n5_ n6_; clear hb hbox hg; have zaE := zai.out; have zaF := zaj.out; obtain ⟨zaG, zaH, zaI⟩ := M.bc3 (w := w15) (a := .string a0_0) (b := .int .i64 a0_1) (c := .int .i64 a0_2) zab.out; obtain ⟨zaJ, zaK, zaL⟩ := M.bf3 zab) | ((with_reducible refine gate_callee (f := 45) rfl ?_); refine M.goes (some 10) Tryd.func45 #[.agg #[.string a0_0, .int .i64 a0_1, .int .i64 a0_2], .int .i64 a1] rfl ?_; (with_reducible refine (pleachref04_Num.calls a0_0 a0_1 a0_2 a1 t222 t223 t224 t225 _ A3.out).mono ?_); rintro e w18 ⟨rfl, hb⟩; refine ⟨_, rfl, ?_⟩; have n0_ := M.bkB zab hb; have n1_ := M.bkB zaf hb; have n2_ := M.upS HB hb; clear zab zaf HB; have zab := n0_; have zaf := n1_; have HB := n2_; clear n0_ n1_ n2_; (try clear hb); obtain ⟨zaM, zaN, zaO⟩ := M.bc3 (w := w18) (a := .string a0_0) (b := .int .i64 a0_1) (c := .int .i64 a0_2) zab.out; obtain ⟨zaP, zaQ, zaR⟩ := M.bf3 zab; obtain ⟨zaS, zaT, zaU⟩ := M.bc3 (w := w18) (a := .string (⟨#[]⟩ : ByteArray)) (b := .int .i64 0) (c := .int .i64 0) zaf.out; obtain ⟨zaV, zaW, zaX⟩ := M.bf3 zaf))
    refine bodyPost_ret (results_ct rfl _ _ zae 39 #[.string t222, .int .i64 t223, .int .i64 t224] (0, 0) _ rfl (by (with_reducible repeat (first | refine blk_drewN ?_ _ | refine blk_drew ?_ | refine blk_alloc ?_ _)); refine blk_put (cs := #[.string t222, .int .i64 t223, .int .i64 0]) ?_ 2 _ rfl; (with_reducible repeat (first | refine blk_drewN ?_ _ | refine blk_drew ?_ | refine blk_alloc ?_ _)); refine blk_put (cs := #[.string t222, .int .i64 0, .int .i64 0]) ?_ 1 _ rfl; (with_reducible repeat (first | refine blk_drewN ?_ _ | refine blk_drew ?_ | refine blk_alloc ?_ _)); refine blk_put (cs := #[.string (⟨#[]⟩ : ByteArray), .int .i64 0, .int .i64 0]) ?_ 0 _ rfl; (with_reducible repeat (first | refine blk_drewN ?_ _ | refine blk_drew ?_ | refine blk_alloc ?_ _)); refine blk_far ?_ zaj.out _; (with_reducible repeat (first | refine blk_drewN ?_ _ | refine blk_drew ?_ | refine blk_alloc ?_ _)); refine blk_far ?_ zaj.out _; (with_reducible repeat (first | refine blk_drewN ?_ _ | refine blk_drew ?_ | refine blk_alloc ?_ _)); refine blk_far ?_ zaj.out _; (with_reducible repeat (first | refine blk_drewN ?_ _ | refine blk_drew ?_ | refine blk_alloc ?_ _)); exact zaf.out) Tryd.underlying39 rfl (by kernel_rfl)) rfl ?_
    exact M.fin (M.up HB)

-- this session's own plain form
def pleachref04_Text.f (a0_0 : ByteArray) (a0_1 : Int) (a0_2 : Int) (a1 : Int) : Option (ByteArray × Int × Int × ByteArray) :=
  if M.sok a0_0 a0_1 ∧ a1 ≤ 9223372036854775807 ∧ a0_0.size ≤ 9223372036854775806 then some (a0_0, (M.xtext a0_0 a0_1 a0_2 a1).2.1, (M.xtext a0_0 a0_1 a0_2 a1).2.2, (M.xtext a0_0 a0_1 a0_2 a1).1) else none
theorem pleachref04_Text.ev (s : ByteArray) (p er n : Int) (r : ByteArray × Int × Int × ByteArray) (h : pleachref04_Text.f s p er n = some r) : pleachref04_Text_p.f s p er n = some r := by
  unfold pleachref04_Text.f at h
  split at h
  case isFalse => cases h
  case isTrue hh =>
    have hok := M.xnum_ok s er n hh.1
    have hr : 0 ≤ (M.xnum s p er n).1 ∧ (M.xnum s p er n).1 ≤ 9223372036854775807 := by
      unfold M.xnum
      split
      · exact M.snum_range s hh.1 hh.2.1
      · simp
    unfold pleachref04_Text_p.f pleachref04_Num.f
    rw [if_pos hh, Option.bind_some, ← h]
    unfold M.xtext
    generalize M.xnum s p er n = q at hok hr ⊢
    obtain ⟨m, p', e'⟩ := q
    simp only at hok hr ⊢
    by_cases he : e' = 0
    · rw [if_pos he]
      unfold pleachref04_fix.f
      rw [if_pos ⟨hok, by omega, by omega⟩]; rfl
    · rw [if_neg he]
      unfold M.xfix
      rw [if_neg he]; rfl
theorem pleachref04_Text.calls (a0_0 : ByteArray) (a0_1 : Int) (a0_2 : Int) (a1 : Int) (r1 : ByteArray) (r2 : Int) (r3 : Int) (r4 : ByteArray) (w : World) (h : pleachref04_Text.f a0_0 a0_1 a0_2 a1 = some (r1, r2, r3, r4)) :
    Calls Tryd.prog 35 #[.agg #[.string a0_0, .int .i64 a0_1, .int .i64 a0_2], .int .i64 a1] w fun e w' => e = .returned (.tuple #[.agg #[.string r1, .int .i64 r2, .int .i64 r3], .string r4]) ∧ Below w.heap.size w w' := by
  exact pleachref04_Text_p.calls (w := w) (h := pleachref04_Text.ev _ _ _ _ _ h)

/-! ### pleachref02_Tail_p: function 27 -/
def pleachref02_Tail_p.l0 : Nat → Int → ByteArray → Int → Option (ByteArray)
  | 0, _, _, _ => none
  | k + 1, x0, x3, x4 => if x4 < 4 then ((some (([(Int.tmod x0 256) % 256] : List Int) : List Int)).bind fun y230 => (if x3.size + (strOfNums y230).size ≤ 9223372036854775807 then (pleachref02_Tail_p.l0 k ((Int.tdiv x0 256) % 4294967296) (x3 ++ (strOfNums y230)) (wrap64 (x4 + 1))) else (none))) else (some x3)
def pleachref02_Tail_p.f (k : Nat) (a0 : Int) : Option (ByteArray) := pleachref02_Tail_p.l0 k a0 (⟨#[]⟩ : ByteArray) 0
theorem pleachref02_Tail_p.mono_l : ∀ k, (∀ y0 y1 y2, LeO (pleachref02_Tail_p.l0 k y0 y1 y2) (pleachref02_Tail_p.l0 (k + 1) y0 y1 y2))
  | 0 => fun _ _ _ r h => by simp [pleachref02_Tail_p.l0] at h
  | k + 1 => by
    have ih0 := pleachref02_Tail_p.mono_l k
    · intro y0 y1 y2
      unfold pleachref02_Tail_p.l0
      repeat' first
      | (with_reducible exact ih0 _ _ _)
      | (with_reducible exact LeO.refl _)
      | (with_reducible exact LeO.none _)
      | (with_reducible refine LeO.ite ?_ ?_)
      | (with_reducible refine LeO.bind ?_ (fun _ => ?_))
      | exact ih0 _ _ _
      | exact LeO.none _
      | refine LeO.ite ?_ ?_
      | refine LeO.bind ?_ (fun _ => ?_)
theorem pleachref02_Tail_p.mono : ∀ a0 k, LeO (pleachref02_Tail_p.f k a0) (pleachref02_Tail_p.f (k + 1) a0) := by
  intro a0 k
  have ih0 := pleachref02_Tail_p.mono_l k
  unfold pleachref02_Tail_p.f
  repeat' first
      | (with_reducible exact ih0 _ _ _)
      | (with_reducible exact LeO.refl _)
      | (with_reducible exact LeO.none _)
      | (with_reducible refine LeO.ite ?_ ?_)
      | (with_reducible refine LeO.bind ?_ (fun _ => ?_))
      | exact ih0 _ _ _
      | exact LeO.none _
      | refine LeO.ite ?_ ?_
      | refine LeO.bind ?_ (fun _ => ?_)
set_option maxHeartbeats 8000000 in
set_option maxRecDepth 100000 in
theorem pleachref02_Tail_p.calls (k : Nat) (a0 : Int) (r : ByteArray) (w : World) (h : pleachref02_Tail_p.f k a0 = some r) :
    Calls Tryd.prog 27 #[.int .u32 a0] w fun e w' => e = .returned (.string r) ∧ Below w.heap.size w w' := by
  have HB := Aside0.mk (Below.refl w.heap.size w)
  have H : (pleachref02_Tail_p.l0 k a0 (⟨#[]⟩ : ByteArray) 0) = some r := h
  clear h
  have H' := Aside0.mk H
  clear H
  go_enter Tryd.func27, Tryd.ntmps27
  go_wp2
  go_loopg [0, 3, 4] k (fun kq v0 v3 v4 w' => ∃ (x0_1 : Int) (x3_1 : ByteArray) (x4_1 : Int), v0 = .int .u32 x0_1 ∧ v3 = .string x3_1 ∧ v4 = .int .i64 x4_1 ∧ Aside0 (pleachref02_Tail_p.l0 kq x0_1 x3_1 x4_1 = some r) ∧ Aside0 (kq ≤ k) ∧ Aside0 (Below w.heap.size w w'))
  case atStart => exact ⟨(a0), ((⟨#[]⟩ : ByteArray)), (0), (by first | rfl | (simp; done) | (simp [*]; done) | (simp [M.isEmpty_bne]; done)), (by first | rfl | (simp; done) | (simp [*]; done) | (simp [M.isEmpty_bne]; done)), (by first | rfl | (simp; done) | (simp [*]; done) | (simp [M.isEmpty_bne]; done)), H', ⟨Nat.le_refl _⟩, ⟨M.up HB⟩⟩
  case round =>
    clear H'
    obtain ⟨x0_1, x3_1, x4_1, rfl, rfl, rfl, HA, HK1, HB⟩ := hrel
    cases gk with
    | zero => exact absurd HA.out (by simp [pleachref02_Tail_p.l0])
    | succ k1 =>
      have H := HA.out
      clear HA
      simp only [pleachref02_Tail_p.l0] at H
      by_cases c2 : x4_1 < 4
      · rw [if_pos c2] at H
        have c2b0 : decide (x4_1 < 4) = true := decide_eq_true c2
        clear c2
        obtain ⟨y230, hy230⟩ : ∃ y_ : List Int, y_ = (([(Int.tmod x0_1 256) % 256] : List Int)) := ⟨_, rfl⟩
        replace H : (if x3_1.size + (strOfNums y230).size ≤ 9223372036854775807 then (pleachref02_Tail_p.l0 k1 ((Int.tdiv x0_1 256) % 4294967296) (x3_1 ++ (strOfNums y230)) (wrap64 (x4_1 + 1))) else (none)) = some r := by first | (rw [hy230]; with_reducible exact H) | (have H2_ := (Option.bind_some _ _).symm.trans H; rw [hy230]; with_reducible exact H2_) | (have H2_ := (Option.bind_some _ _).symm.trans H; with_reducible exact H2_) | with_reducible exact H | (rw [hy230]; exact H) | exact H
        have Ny230 := Aside0.mk hy230
        clear hy230
        by_cases c3 : x3_1.size + (strOfNums y230).size ≤ 9223372036854775807
        · rw [if_pos c3] at H
          have c3b0 := eq_true c3
          have c3b1 : decide (x3_1.size + (strOfNums y230).size ≤ 9223372036854775807) = true := decide_eq_true c3
          try have c3b2 : (9223372036854775807 < x3_1.size + (strOfNums y230).size) = False := eq_false (Nat.not_lt.2 c3)
          have H' := Aside0.mk H
          clear H
          go_wp2_with (first | ((with_reducible refine gate_dst (N := 13) rfl ?_); refine Kd.R_lit (Kd.int .u8) _ 5 ?hg (N := 13) ?hd (xs := ([(Int.tmod x0_1 256) % 256] : List Int)) (inner := [.int .u8 ((Int.tmod x0_1 256) % 256)]) (ok := fun _ => True) (okp := fun _ => True) ?hr ?hp (fun _ hk => hk) trivial (Below.refl _ _) (Nat.le_refl _) (by simp) ?_; (case hd => rfl); (case hg => rfl); (case hr => first | (go_simp; done) | (go_simp; rfl)); (case hp => exact (Reps.one (show Kd.M (Kd.int .u8) _ _ _ ((Int.tmod x0_1 256) % 256) [.int .u8 ((Int.tmod x0_1 256) % 256)] from rfl) (Reps.none _ _))); intro v231 w4 ho5 hb hg_ hnew_; clear hg_ hnew_; (first | rw [← Ny230.out] at ho5 | (simp only [Int.reduceToNat] at ho5; rw [← Ny230.out] at ho5)); have n0_ := Aside0.mk (Kd.R_lower ho5 (below_size (M.up HB))); have n1_ := M.upS HB hb; clear HB; have HO232 := n0_; have HB := n1_; clear n0_ n1_; clear hb ho5; have hcv6 := own_string (P := Tryd.prog) Tryd.underlying66 Tryd.underlying5 Tryd.underlying9 (Kd.own_of_R HO232.out)))
          go_roundg k1
          case measure => have := HK1.out; omega
          case rel => exact ⟨((Int.tdiv x0_1 256) % 4294967296), (x3_1 ++ (strOfNums y230)), (wrap64 (x4_1 + 1)), (by first | rfl | (simp; done) | (simp [*]; done) | (simp [M.isEmpty_bne]; done)), (by first | rfl | (simp; done) | (simp [*]; done) | (simp [M.isEmpty_bne]; done)), (by first | rfl | (simp; done) | (simp [*]; done) | (simp [M.isEmpty_bne]; done)), H', ⟨by have := HK1.out; omega⟩, ⟨M.up HB⟩⟩
        · rw [if_neg c3] at H
          exact absurd H (by simp)
      · rw [if_neg c2] at H
        have c2b0 : decide (x4_1 < 4) = false := decide_eq_false c2
        clear c2
        obtain rfl := Option.some.inj H
        go_wp2
        go_ret
        exact M.fin (M.up HB)

-- this session's own plain form
def pleachref02_Tail.f (a0 : Int) : Option ByteArray := if 0 ≤ a0 ∧ a0 < 4294967296 then some (M.sb (M.ctail a0.toNat)) else none
theorem pleachref02_Tail.step (k : Nat) (n : Nat) (hn : n < 4294967296) (out : List UInt8) (ho : out.length ≤ 100) (i : Nat) (hi : i < 4) :
    pleachref02_Tail_p.l0 (k + 1) (n : Int) (M.sb out) (i : Int) = pleachref02_Tail_p.l0 k ((n / 256 : Nat) : Int) (M.sb (out ++ [UInt8.ofNat (n % 256)])) ((i + 1 : Nat) : Int) := by
  have e1 : Int.tmod (n : Int) 256 % 256 = ((n % 256 : Nat) : Int) := by rw [Int.tmod_eq_emod_of_nonneg (by omega)]; omega
  have e2 : Int.tdiv (n : Int) 256 % 4294967296 = ((n / 256 : Nat) : Int) := by rw [Int.tdiv_eq_ediv_of_nonneg (by omega)]; omega
  have e3 : strOfNums [((n % 256 : Nat) : Int)] = M.sb [UInt8.ofNat (n % 256)] := by
    apply M.bs_inj
    rw [M.bs_sb]
    show [UInt8.ofNat ((n % 256 : Nat) : Int).toNat] = _
    rw [Int.toNat_natCast]
  rw [pleachref02_Tail_p.l0, if_pos (by omega), e1, e2, Option.bind_some, e3, if_pos (by rw [M.size_sb, M.size_sb]; simp; omega), ← M.sb_append, M.wrap64_id (by omega) (by omega), show (i : Int) + 1 = ((i + 1 : Nat) : Int) from by omega]
theorem pleachref02_Tail.ev (n : Int) (r : ByteArray) (h : pleachref02_Tail.f n = some r) : ∃ k, pleachref02_Tail_p.f k n = some r := by
  unfold pleachref02_Tail.f at h
  split at h
  case isFalse => cases h
  case isTrue hh =>
    obtain ⟨m, rfl⟩ := Int.eq_ofNat_of_zero_le hh.1
    refine ⟨5, ?_⟩
    rw [← h]
    have s0 := pleachref02_Tail.step 4 m (by omega) [] (by simp) 0 (by decide)
    have s1 := pleachref02_Tail.step 3 (m / 256) (by omega) [UInt8.ofNat (m % 256)] (by simp) 1 (by decide)
    have s2 := pleachref02_Tail.step 2 (m / 256 / 256) (by omega) [UInt8.ofNat (m % 256), UInt8.ofNat (m / 256 % 256)] (by simp) 2 (by decide)
    have s3 := pleachref02_Tail.step 1 (m / 256 / 256 / 256) (by omega) [UInt8.ofNat (m % 256), UInt8.ofNat (m / 256 % 256), UInt8.ofNat (m / 256 / 256 % 256)] (by simp) 3 (by decide)
    unfold pleachref02_Tail_p.f
    refine (s0.trans (s1.trans (s2.trans s3))).trans ?_
    rw [pleachref02_Tail_p.l0, if_neg (by decide), Int.toNat_natCast, Nat.div_div_eq_div_mul, Nat.div_div_eq_div_mul]; rfl
theorem pleachref02_Tail.calls (a0 : Int) (r : ByteArray) (w : World) (h : pleachref02_Tail.f a0 = some r) :
    Calls Tryd.prog 27 #[.int .u32 a0] w fun e w' => e = .returned (.string r) ∧ Below w.heap.size w w' := by
  obtain ⟨k, hk⟩ := pleachref02_Tail.ev _ _ h
  exact pleachref02_Tail_p.calls (k := k) (w := w) (h := hk)

/-! ### pleachref02_bits_p: function 38 -/
mutual
def pleachref02_bits_p.l0 : Nat → ByteArray → List Int → Int → Option (List Int)
  | 0, _, _, _ => none
  | k + 1, x0, x3, x4 => if x4 < (x0.size : Int) then (if 0 ≤ x4 then (pleachref02_bits_p.l1 k x0 x3 x4 ((bt x0 x4) % 4294967296) 0) else (none)) else (some x3)
def pleachref02_bits_p.l1 : Nat → ByteArray → List Int → Int → Int → Int → Option (List Int)
  | 0, _, _, _, _, _ => none
  | k + 1, x0, x3, x4, x5, x6 => if x6 < 8 then (if x3.length < 35184372088832 then (pleachref02_bits_p.l1 k x0 (x3 ++ [Int.tmod x5 2]) x4 ((Int.tdiv x5 2) % 4294967296) (wrap64 (x6 + 1))) else (none)) else (pleachref02_bits_p.l0 k x0 x3 (wrap64 (x4 + 1)))
end
def pleachref02_bits_p.f (k : Nat) (a0 : ByteArray) : Option (List Int) := pleachref02_bits_p.l0 k a0 ([] : List Int) 0
theorem pleachref02_bits_p.mono_l : ∀ k, (∀ y0 y1 y2, LeO (pleachref02_bits_p.l0 k y0 y1 y2) (pleachref02_bits_p.l0 (k + 1) y0 y1 y2)) ∧ (∀ y0 y1 y2 y3 y4, LeO (pleachref02_bits_p.l1 k y0 y1 y2 y3 y4) (pleachref02_bits_p.l1 (k + 1) y0 y1 y2 y3 y4))
  | 0 => ⟨fun _ _ _ r h => by simp [pleachref02_bits_p.l0] at h, fun _ _ _ _ _ r h => by simp [pleachref02_bits_p.l1] at h⟩
  | k + 1 => by
    obtain ⟨ih0, ih1⟩ := pleachref02_bits_p.mono_l k
    refine ⟨?_, ?_⟩
    · intro y0 y1 y2
      unfold pleachref02_bits_p.l0
      repeat' first
      | (with_reducible exact ih0 _ _ _)
      | (with_reducible exact ih1 _ _ _ _ _)
      | (with_reducible exact LeO.refl _)
      | (with_reducible exact LeO.none _)
      | (with_reducible refine LeO.ite ?_ ?_)
      | (with_reducible refine LeO.bind ?_ (fun _ => ?_))
      | exact ih0 _ _ _
      | exact ih1 _ _ _ _ _
      | exact LeO.none _
      | refine LeO.ite ?_ ?_
      | refine LeO.bind ?_ (fun _ => ?_)
    · intro y0 y1 y2 y3 y4
      unfold pleachref02_bits_p.l1
      repeat' first
      | (with_reducible exact ih0 _ _ _)
      | (with_reducible exact ih1 _ _ _ _ _)
      | (with_reducible exact LeO.refl _)
      | (with_reducible exact LeO.none _)
      | (with_reducible refine LeO.ite ?_ ?_)
      | (with_reducible refine LeO.bind ?_ (fun _ => ?_))
      | exact ih0 _ _ _
      | exact ih1 _ _ _ _ _
      | exact LeO.none _
      | refine LeO.ite ?_ ?_
      | refine LeO.bind ?_ (fun _ => ?_)
theorem pleachref02_bits_p.mono : ∀ a0 k, LeO (pleachref02_bits_p.f k a0) (pleachref02_bits_p.f (k + 1) a0) := by
  intro a0 k
  obtain ⟨ih0, ih1⟩ := pleachref02_bits_p.mono_l k
  unfold pleachref02_bits_p.f
  repeat' first
      | (with_reducible exact ih0 _ _ _)
      | (with_reducible exact ih1 _ _ _ _ _)
      | (with_reducible exact LeO.refl _)
      | (with_reducible exact LeO.none _)
      | (with_reducible refine LeO.ite ?_ ?_)
      | (with_reducible refine LeO.bind ?_ (fun _ => ?_))
      | exact ih0 _ _ _
      | exact ih1 _ _ _ _ _
      | exact LeO.none _
      | refine LeO.ite ?_ ?_
      | refine LeO.bind ?_ (fun _ => ?_)
set_option maxHeartbeats 8000000 in
set_option maxRecDepth 100000 in
theorem pleachref02_bits_p.calls (k : Nat) (a0 : ByteArray) (r : List Int) (w : World) (h : pleachref02_bits_p.f k a0 = some r) :
    Calls Tryd.prog 38 #[.string a0] w fun e w' => ∃ v0_ : Value, e = .returned (v0_) ∧ Kd.R (Kd.int .u32) 55 w' w.heap.size (fun _ => True) v0_ r ∧ Below w.heap.size w w' := by
  have HB := Aside0.mk (Below.refl w.heap.size w)
  have H : (pleachref02_bits_p.l0 k a0 ([] : List Int) 0) = some r := h
  clear h
  have H' := Aside0.mk H
  clear H
  go_enter Tryd.func38, Tryd.ntmps38
  go_wp2
  go_loopg [3, 4] k (fun kq v3 v4 w' => ∃ (x3_1 : List Int) (x4_1 : Int), v4 = .int .i64 x4_1 ∧ Aside0 (pleachref02_bits_p.l0 kq a0 x3_1 x4_1 = some r) ∧ Aside0 (kq ≤ k) ∧ Aside0 (Kd.R (Kd.int .u32) 55 w' w.heap.size (fun _ => True) v3 x3_1) ∧ Aside0 (Below w.heap.size w w'))
  case atStart => exact ⟨(([] : List Int)), (0), (by first | rfl | (simp; done) | (simp [*]; done) | (simp [M.isEmpty_bne]; done)), H', ⟨Nat.le_refl _⟩, ⟨by first | exact Kd.R_nil _ _ _ _ _ | exact Kd.N_nil _ _ _ _ _ | exact Kd.V_nil _ _ _ _ _ | exact Kd.Q_nil _ _ _ _ _ | exact Kd.S_nil _ _ _ _ _⟩, ⟨M.up HB⟩⟩
  case round =>
    clear H'
    obtain ⟨x3_1, x4_1, rfl, HA, HK1, zaY, HB⟩ := hrel
    cases gk with
    | zero => exact absurd HA.out (by simp [pleachref02_bits_p.l0])
    | succ k1 =>
      have H := HA.out
      clear HA
      simp only [pleachref02_bits_p.l0] at H
      by_cases c2 : x4_1 < (a0.size : Int)
      · rw [if_pos c2] at H
        have c2b0 : decide (x4_1 < (a0.size : Int)) = true := decide_eq_true c2
        clear c2
        by_cases c3 : 0 ≤ x4_1
        · rw [if_pos c3] at H
          have c3b0 : decide (0 ≤ x4_1) = true := decide_eq_true c3
          clear c3
          have H' := Aside0.mk H
          clear H
          have p4 : 0 ≤ (x4_1 : Int) := of_decide_eq_true (by first | (with_reducible assumption) | assumption)
          have q4 : x4_1 < (a0.size : Int) := of_decide_eq_true (by first | (with_reducible assumption) | assumption)
          have hx4 := bt_at a0 x4_1
          replace p4 := eq_true p4
          replace q4 := eq_true q4
          go_wp2
          go_loopg [3, 5, 6] k1 (fun kq v3 v5 v6 w' => ∃ (x3_2 : List Int) (x5_2 : Int) (x6_2 : Int), v5 = .int .u32 x5_2 ∧ v6 = .int .i64 x6_2 ∧ Aside0 (pleachref02_bits_p.l1 kq a0 x3_2 x4_1 x5_2 x6_2 = some r) ∧ Aside0 (kq ≤ k1) ∧ Aside0 (Kd.R (Kd.int .u32) 55 w' w.heap.size (fun _ => True) v3 x3_2) ∧ Aside0 (Below w.heap.size w w'))
          case atStart => exact ⟨(x3_1), ((bt a0 x4_1) % 4294967296), (0), (by first | rfl | (simp; done) | (simp [*]; done) | (simp [M.isEmpty_bne]; done)), (by first | rfl | (simp; done) | (simp [*]; done) | (simp [M.isEmpty_bne]; done)), H', ⟨Nat.le_refl _⟩, ⟨by (with_reducible repeat (first | apply Kd.R_alloc | apply Kd.R_drewN | apply Kd.R_drew)); exact zaY.out⟩, ⟨M.up HB⟩⟩
          case round =>
            clear H'
            try clear c2
            try clear c2b0
            try clear p2
            try clear c3
            try clear c3b0
            try clear p4
            try clear q4
            try clear hx4
            try clear p4
            try clear q4
            obtain ⟨x3_2, x5_2, x6_2, rfl, rfl, HA, HK2, zaY, HB⟩ := hrel
            cases gk with
            | zero => exact absurd HA.out (by simp [pleachref02_bits_p.l1])
            | succ k2 =>
              have H := HA.out
              clear HA
              simp only [pleachref02_bits_p.l1] at H
              by_cases c5 : x6_2 < 8
              · rw [if_pos c5] at H
                have c5b0 : decide (x6_2 < 8) = true := decide_eq_true c5
                clear c5
                by_cases c6 : x3_2.length < 35184372088832
                · rw [if_pos c6] at H
                  have LMc6 := Aside0.mk c6
                  clear c6
                  obtain ⟨y233, hy233⟩ : ∃ y_ : List Int, y_ = (x3_2 ++ [Int.tmod x5_2 2]) := ⟨_, rfl⟩
                  replace H : (pleachref02_bits_p.l1 k2 a0 y233 x4_1 ((Int.tdiv x5_2 2) % 4294967296) (wrap64 (x6_2 + 1))) = some r := by first | (rw [hy233]; with_reducible exact H) | (have H2_ := (Option.bind_some _ _).symm.trans H; rw [hy233]; with_reducible exact H2_) | (have H2_ := (Option.bind_some _ _).symm.trans H; with_reducible exact H2_) | with_reducible exact H | (rw [hy233]; exact H) | exact H
                  have Ny233 := Aside0.mk hy233
                  clear hy233
                  have H' := Aside0.mk H
                  clear H
                  go_wp2_with (first | ((with_reducible refine gate_builtin (b := .append) (xs := #[.tmp 21, .tmp 24]) rfl ?_); at_builtin; refine Kd.R_append (Kd.int .u32) (w0 := w) w.heap.size rfl (.tmp 21) (.tmp 24) 67 55 (.int .u32 0) 4 rfl Tryd.underlying67 info55 rfl (by decide) (by omega) u3 x3_2 (Int.tmod x5_2 2) [.int .u32 (Int.tmod x5_2 2)] (fun _ => True) (fun _ => False) rfl rfl ?aP (fun _ hk => hk.elim) ?aF ?aO ?aB ?aS ?aL ?_; (case aP => exact rfl); (case aB => exact (M.up HB)); (case aF => exact (fun _ _ => trivial)); (case aO => exact (M.ro zaY)); (case aS => exact (below_size (M.up HB))); (case aL => have := LMc6.out; omega); intro v234 w7 ho hb hg hat; rw [← Ny233.out] at ho; have n0_ := Aside0.mk (hb); have n1_ := Aside0.mk (ho); clear HB zaY; have HB := n0_; have HO235 := n1_; clear n0_ n1_; clear ho hb hg hat))
                  go_roundg k2
                  case measure => have := HK1.out; have := HK2.out; omega
                  case rel => exact ⟨(y233), ((Int.tdiv x5_2 2) % 4294967296), (wrap64 (x6_2 + 1)), (by first | rfl | (simp; done) | (simp [*]; done) | (simp [M.isEmpty_bne]; done)), (by first | rfl | (simp; done) | (simp [*]; done) | (simp [M.isEmpty_bne]; done)), H', ⟨by have := HK1.out; have := HK2.out; omega⟩, ⟨by (with_reducible repeat (first | apply Kd.R_alloc | apply Kd.R_drewN | apply Kd.R_drew)); exact HO235.out⟩, ⟨M.up HB⟩⟩
                · rw [if_neg c6] at H
                  exact absurd H (by simp)
              · rw [if_neg c5] at H
                have c5b0 : decide (x6_2 < 8) = false := decide_eq_false c5
                clear c5
                have H' := Aside0.mk H
                clear H
                go_wp2
                go_roundg k2
                case measure => have := HK1.out; have := HK2.out; omega
                case rel => exact ⟨(x3_2), (wrap64 (x4_1 + 1)), (by first | rfl | (simp; done) | (simp [*]; done) | (simp [M.isEmpty_bne]; done)), H', ⟨by have := HK1.out; have := HK2.out; omega⟩, ⟨by (with_reducible repeat (first | apply Kd.R_alloc | apply Kd.R_drewN | apply Kd.R_drew)); exact zaY.out⟩, ⟨M.up HB⟩⟩
        · rw [if_neg c3] at H
          exact absurd H (by simp)
      · rw [if_neg c2] at H
        have c2b0 : decide (x4_1 < (a0.size : Int)) = false := decide_eq_false c2
        clear c2
        obtain rfl := Option.some.inj H
        go_wp2
        go_ret
        exact ⟨_, by first | rfl | (simp [errW_none, errW_some] <;> rfl) | (simp [*, errW_none, errW_some] <;> rfl), by (with_reducible repeat (first | apply Kd.R_alloc | apply Kd.R_drewN | apply Kd.R_drew)); exact zaY.out, M.up HB⟩

-- this session's own plain form
def pleachref02_bits.f (a0 : ByteArray) : Option (List Int) := if a0.size ≤ 1000000000 then some ((M.cbitsL (M.bs a0)).map fun (n : Nat) => (n : Int)) else none
theorem pleachref02_bits.inner (s : ByteArray) (m : Nat) (i : Int) (d : Nat) : ∀ (j c : Nat) (out : List Int), j + d = 8 → c < 256 → out.length ≤ 8000000000 + j → 
    pleachref02_bits_p.l1 (m + d + 1) s out i (c : Int) (j : Int) = pleachref02_bits_p.l0 m s (out ++ (M.cbits d c).map fun (n : Nat) => (n : Int)) (wrap64 (i + 1)) := by
  induction d with
  | zero =>
    intro j c out hj hc ho
    rw [pleachref02_bits_p.l1, if_neg (by omega)]; simp [M.cbits]
  | succ d ih =>
    intro j c out hj hc ho
    have e1 : Int.tmod (c : Int) 2 = ((c % 2 : Nat) : Int) := by rw [Int.tmod_eq_emod_of_nonneg (by omega)]; omega
    have e2 : Int.tdiv (c : Int) 2 % 4294967296 = ((c / 2 : Nat) : Int) := by rw [Int.tdiv_eq_ediv_of_nonneg (by omega)]; omega
    rw [show m + (d + 1) + 1 = (m + d + 1) + 1 from by omega, pleachref02_bits_p.l1, if_pos (by omega), if_pos (by omega), e1, e2, M.wrap64_id (i := (j : Int) + 1) (by omega) (by omega), show (j : Int) + 1 = ((j + 1 : Nat) : Int) from by omega, ih (j + 1) (c / 2) _ (by omega) (by omega) (by simp; omega)]
    simp [M.cbits]
theorem pleachref02_bits.loop (s : ByteArray) (hs : s.size ≤ 1000000000) (d : Nat) : ∀ (i : Nat) (out : List Int), i + d = s.size → out.length = 8 * i →
    pleachref02_bits_p.l0 (10 * d + 1) s out (i : Int) = some (out ++ (M.cbitsL ((M.bs s).drop i)).map fun (n : Nat) => (n : Int)) := by
  induction d with
  | zero =>
    intro i out hi ho
    rw [pleachref02_bits_p.l0, if_neg (by omega), List.drop_of_length_le (by rw [M.bs_length]; omega)]; simp [M.cbitsL]
  | succ d ih =>
    intro i out hi ho
    have hlt : i < (M.bs s).length := by rw [M.bs_length]; omega
    have hb := M.bt_bs s i hlt
    have hc := ((M.bs s)[i]).toNat_lt
    rw [show 10 * (d + 1) + 1 = (10 * d + 1 + 8 + 1) + 1 from by omega, pleachref02_bits_p.l0, if_pos (by omega), if_pos (by omega), hb, Int.emod_eq_of_lt (by omega) (by omega)]
    have := pleachref02_bits.inner s (10 * d + 1) (i : Int) 8 0 ((M.bs s)[i]).toNat out (by omega) hc (by omega)
    rw [show ((0 : Nat) : Int) = 0 from rfl] at this
    rw [this, M.wrap64_id (by omega) (by omega), show (i : Int) + 1 = ((i + 1 : Nat) : Int) from by omega, ih (i + 1) _ (by omega) (by simp [M.cbits]; omega), List.drop_eq_getElem_cons hlt]
    unfold M.cbitsL
    rw [List.flatMap_cons, List.map_append, List.append_assoc]
theorem pleachref02_bits.ev (s : ByteArray) (r : List Int) (h : pleachref02_bits.f s = some r) : ∃ k, pleachref02_bits_p.f k s = some r := by
  unfold pleachref02_bits.f at h
  split at h
  case isFalse => cases h
  case isTrue hh =>
    refine ⟨10 * s.size + 1, ?_⟩
    rw [← h]
    have := pleachref02_bits.loop s hh s.size 0 [] (by omega) (by simp)
    rw [List.drop_zero, List.nil_append] at this
    exact this
theorem pleachref02_bits.calls (a0 : ByteArray) (r : List Int) (w : World) (h : pleachref02_bits.f a0 = some r) :
    Calls Tryd.prog 38 #[.string a0] w fun e w' => ∃ v0_ : Value, e = .returned (v0_) ∧ Kd.R (Kd.int .u32) 55 w' w.heap.size (fun _ => True) v0_ r ∧ Below w.heap.size w w' := by
  obtain ⟨k, hk⟩ := pleachref02_bits.ev _ _ h
  exact pleachref02_bits_p.calls (k := k) (w := w) (h := hk)

/-! ### pleachref02_On_p: function 28 -/
def pleachref02_On_p.l0 : Nat → Int → List Int → Int → Option (Int)
  | 0, _, _, _ => none
  | k + 1, x5, x6, x7 => if x7 < (x6.length : Int) then (if 0 ≤ x7 then (if (Int.tmod x5 2) = (rd x6 x7) then (pleachref02_On_p.l0 k ((Int.tdiv x5 2) % 4294967296) x6 (wrap64 (x7 + 1))) else (pleachref02_On_p.l0 k (Go.bits .xor .u32 ((Int.tdiv x5 2) % 4294967296) 3988292384) x6 (wrap64 (x7 + 1)))) else (none)) else (some ((4294967295 - x5) % 4294967296))
def pleachref02_On_p.f (k : Nat) (a0 : Int) (a1 : ByteArray) : Option (Int) := (pleachref02_bits.f a1).bind fun t236 => (pleachref02_On_p.l0 k ((4294967295 - a0) % 4294967296) t236 0)
theorem pleachref02_On_p.mono_l : ∀ k, (∀ y0 y1 y2, LeO (pleachref02_On_p.l0 k y0 y1 y2) (pleachref02_On_p.l0 (k + 1) y0 y1 y2))
  | 0 => fun _ _ _ r h => by simp [pleachref02_On_p.l0] at h
  | k + 1 => by
    have ih0 := pleachref02_On_p.mono_l k
    · intro y0 y1 y2
      unfold pleachref02_On_p.l0
      repeat' first
      | (with_reducible exact ih0 _ _ _)
      | (with_reducible exact LeO.refl _)
      | (with_reducible exact LeO.none _)
      | (with_reducible refine LeO.ite ?_ ?_)
      | (with_reducible refine LeO.bind ?_ (fun _ => ?_))
      | exact ih0 _ _ _
      | exact LeO.none _
      | refine LeO.ite ?_ ?_
      | refine LeO.bind ?_ (fun _ => ?_)
theorem pleachref02_On_p.mono : ∀ a0 a1 k, LeO (pleachref02_On_p.f k a0 a1) (pleachref02_On_p.f (k + 1) a0 a1) := by
  intro a0 a1 k
  have ih0 := pleachref02_On_p.mono_l k
  unfold pleachref02_On_p.f
  repeat' first
      | (with_reducible exact ih0 _ _ _)
      | (with_reducible exact LeO.refl _)
      | (with_reducible exact LeO.none _)
      | (with_reducible refine LeO.ite ?_ ?_)
      | (with_reducible refine LeO.bind ?_ (fun _ => ?_))
      | exact ih0 _ _ _
      | exact LeO.none _
      | refine LeO.ite ?_ ?_
      | refine LeO.bind ?_ (fun _ => ?_)
set_option maxHeartbeats 8000000 in
set_option maxRecDepth 100000 in
theorem pleachref02_On_p.calls (k : Nat) (a0 : Int) (a1 : ByteArray) (r : Int) (w : World) (h : pleachref02_On_p.f k a0 a1 = some r) :
    Calls Tryd.prog 28 #[.int .u32 a0, .string a1] w fun e w' => e = .returned (.int .u32 r) ∧ Below w.heap.size w w' := by
  have HB := Aside0.mk (Below.refl w.heap.size w)
  have H : ((pleachref02_bits.f a1).bind fun t236 => (pleachref02_On_p.l0 k ((4294967295 - a0) % 4294967296) t236 0)) = some r := h
  clear h
  replace H := Option.bind_eq_some_iff.mp H
  obtain ⟨t236, A30, H⟩ := H
  replace H : (pleachref02_On_p.l0 k ((4294967295 - a0) % 4294967296) t236 0) = some r := H
  have A3 := Aside0.mk A30
  clear A30
  have H' := Aside0.mk H
  clear H
  go_enter Tryd.func28, Tryd.ntmps28
  go_wp2_with (first | ((with_reducible refine gate_callee (f := 38) rfl ?_); refine M.goes (some 12) Tryd.func38 #[.string a1] rfl ?_; (with_reducible refine (pleachref02_bits.calls a1 t236 _ A3.out).mono ?_); rintro e w4 ⟨v237, rfl, ho0, hb⟩; refine ⟨_, rfl, ?_⟩; have n0_ := Aside0.mk (Kd.R_lower ho0 (below_size (M.up HB))); have n1_ := M.upS HB hb; clear HB; have HO238 := n0_; have HB := n1_; clear n0_ n1_; (try clear hb); (try clear ho0)))
  go_loopg [5, 7] k (fun kq v5 v7 w' => ∃ (x5_1 : Int) (x7_1 : Int), v5 = .int .u32 x5_1 ∧ v7 = .int .i64 x7_1 ∧ Aside0 (pleachref02_On_p.l0 kq x5_1 t236 x7_1 = some r) ∧ Aside0 (kq ≤ k) ∧ Aside0 (Kd.R (Kd.int .u32) 55 w' w.heap.size (fun _ => True) v237 t236) ∧ Aside0 (Below w.heap.size w w'))
  case atStart => exact ⟨((4294967295 - a0) % 4294967296), (0), (by first | rfl | (simp; done) | (simp [*]; done) | (simp [M.isEmpty_bne]; done)), (by first | rfl | (simp; done) | (simp [*]; done) | (simp [M.isEmpty_bne]; done)), H', ⟨Nat.le_refl _⟩, ⟨by (with_reducible repeat (first | apply Kd.R_alloc | apply Kd.R_drewN | apply Kd.R_drew)); exact HO238.out⟩, ⟨M.up HB⟩⟩
  case round =>
    clear H'
    try clear c2
    try clear p2
    try clear c3
    obtain ⟨x5_1, x7_1, rfl, rfl, HA, HK1, zaZ, HB⟩ := hrel
    cases gk with
    | zero => exact absurd HA.out (by simp [pleachref02_On_p.l0])
    | succ k1 =>
      have H := HA.out
      clear HA
      simp only [pleachref02_On_p.l0] at H
      by_cases c5 : x7_1 < (t236.length : Int)
      · rw [if_pos c5] at H
        have c5b0 : decide (x7_1 < (t236.length : Int)) = true := decide_eq_true c5
        clear c5
        by_cases c6 : 0 ≤ x7_1
        · rw [if_pos c6] at H
          have c6b0 : decide (0 ≤ x7_1) = true := decide_eq_true c6
          clear c6
          by_cases c7 : (Int.tmod x5_1 2) = (rd t236 x7_1)
          · rw [if_pos c7] at H
            have c7b0 : ((Int.tmod x5_1 2) == (rd t236 x7_1)) = true := beq_iff_eq.mpr c7
            have c7b1 : ((Int.tmod x5_1 2) != (rd t236 x7_1)) = false := bne_eq_false_iff_eq.mpr c7
            clear c7
            have H' := Aside0.mk H
            clear H
            obtain ⟨Ao8, co8, eo8⟩ := Kd.R_slice zaZ.out
            subst eo8
            have p239 : 0 ≤ (x7_1 : Int) := of_decide_eq_true (by first | (with_reducible assumption) | assumption)
            have q239 : x7_1 < (t236.length : Int) := of_decide_eq_true (by first | (with_reducible assumption) | assumption)
            obtain ⟨ad239, e239, hx239_0⟩ := Kd.at_int (Kd.R_reads' zaZ.out).2.2 x7_1 p239 q239
            cases e239
            replace p239 := eq_true p239
            replace q239 := eq_true q239
            go_wp2
            go_roundg k1
            case measure => have := HK1.out; omega
            case rel => exact ⟨((Int.tdiv x5_1 2) % 4294967296), (wrap64 (x7_1 + 1)), (by first | rfl | (simp; done) | (simp [*]; done) | (simp [M.isEmpty_bne]; done)), (by first | rfl | (simp; done) | (simp [*]; done) | (simp [M.isEmpty_bne]; done)), H', ⟨by have := HK1.out; omega⟩, ⟨by (with_reducible repeat (first | apply Kd.R_alloc | apply Kd.R_drewN | apply Kd.R_drew)); exact zaZ.out⟩, ⟨M.up HB⟩⟩
          · rw [if_neg c7] at H
            have c7b0 : ((Int.tmod x5_1 2) == (rd t236 x7_1)) = false := beq_eq_false_iff_ne.mpr c7
            have c7b1 : ((Int.tmod x5_1 2) != (rd t236 x7_1)) = true := bne_iff_ne.mpr c7
            have H' := Aside0.mk H
            clear H
            obtain ⟨Ao9, co9, eo9⟩ := Kd.R_slice zaZ.out
            subst eo9
            have p239 : 0 ≤ (x7_1 : Int) := of_decide_eq_true (by first | (with_reducible assumption) | assumption)
            have q239 : x7_1 < (t236.length : Int) := of_decide_eq_true (by first | (with_reducible assumption) | assumption)
            obtain ⟨ad239, e239, hx239_0⟩ := Kd.at_int (Kd.R_reads' zaZ.out).2.2 x7_1 p239 q239
            cases e239
            replace p239 := eq_true p239
            replace q239 := eq_true q239
            go_wp2
            go_roundg k1
            case measure => have := HK1.out; omega
            case rel => exact ⟨(Go.bits .xor .u32 ((Int.tdiv x5_1 2) % 4294967296) 3988292384), (wrap64 (x7_1 + 1)), (by first | rfl | (simp; done) | (simp [*]; done) | (simp [M.isEmpty_bne]; done)), (by first | rfl | (simp; done) | (simp [*]; done) | (simp [M.isEmpty_bne]; done)), H', ⟨by have := HK1.out; omega⟩, ⟨by (with_reducible repeat (first | apply Kd.R_alloc | apply Kd.R_drewN | apply Kd.R_drew)); exact zaZ.out⟩, ⟨M.up HB⟩⟩
        · rw [if_neg c6] at H
          exact absurd H (by simp)
      · rw [if_neg c5] at H
        have c5b0 : decide (x7_1 < (t236.length : Int)) = false := decide_eq_false c5
        clear c5
        obtain rfl := Option.some.inj H
        obtain ⟨Ao10, co10, eo10⟩ := Kd.R_slice zaZ.out
        subst eo10
        go_wp2
        go_ret
        exact M.fin (M.up HB)

-- this session's own plain form
def pleachref02_On.f (a0 : Int) (a1 : ByteArray) : Option Int := if 0 ≤ a0 ∧ a0 < 4294967296 ∧ a1.size ≤ 1000000000 then some ((M.con a0.toNat (M.bs a1) : Nat) : Int) else none
theorem pleachref02_On.loop (l : List Nat) (hl : l.length ≤ 8000000000) (hb : ∀ b ∈ l, b < 2) (d : Nat) : ∀ (i r : Nat), i + d = l.length → r < 4294967296 →
    pleachref02_On_p.l0 (d + 1) (r : Int) (l.map fun (n : Nat) => (n : Int)) (i : Int) = some ((4294967295 - (l.drop i).foldl M.cbit r : Nat) : Int) := by
  induction d with
  | zero =>
    intro i r hi hr
    rw [pleachref02_On_p.l0, if_neg (by rw [List.length_map]; omega), List.drop_of_length_le (by omega), List.foldl_nil]
    congr 1
    rw [Int.emod_eq_of_lt (by omega) (by omega)]; omega
  | succ d ih =>
    intro i r hi hr
    have hlt : i < l.length := by omega
    have hrd : rd (l.map fun (n : Nat) => (n : Int)) (i : Int) = ((l[i] : Nat) : Int) := by simp [rd, List.getD, hlt]
    have hbi := hb _ (List.getElem_mem hlt)
    have e1 : Int.tmod (r : Int) 2 = ((r % 2 : Nat) : Int) := by rw [Int.tmod_eq_emod_of_nonneg (by omega)]; omega
    have e2 : Int.tdiv (r : Int) 2 % 4294967296 = ((r / 2 : Nat) : Int) := by rw [Int.tdiv_eq_ediv_of_nonneg (by omega)]; omega
    have e3 := M.xor32 (a := r / 2) (b := 3988292384) (by omega) (by decide)
    have e4 := M.xor_lt (a := r / 2) (b := 3988292384) (by omega) (by decide)
    rw [List.drop_eq_getElem_cons hlt, List.foldl_cons]
    rw [pleachref02_On_p.l0, if_pos (by rw [List.length_map]; omega), if_pos (by omega), hrd, e1, e2, M.wrap64_id (by omega) (by omega), show (i : Int) + 1 = ((i + 1 : Nat) : Int) from by omega]
    have e5 : Go.bits .xor .u32 ((r / 2 : Nat) : Int) 3988292384 = ((r / 2 ^^^ 3988292384 : Nat) : Int) := e3
    rw [e5]
    unfold M.cbit
    by_cases h : r % 2 = l[i]
    · rw [if_pos (by omega), if_pos h]
      exact ih (i + 1) _ (by omega) (by omega)
    · rw [if_neg (by omega), if_neg h]
      exact ih (i + 1) _ (by omega) e4
theorem pleachref02_On.small (l : List UInt8) : ∀ b ∈ M.cbitsL l, b < 2 := by
  have key : ∀ (m c : Nat), ∀ b ∈ M.cbits m c, b < 2 := by
    intro m
    induction m with
    | zero => intro c b hb; cases hb
    | succ m ih =>
      intro c b hb
      rw [M.cbits, List.mem_cons] at hb
      rcases hb with rfl | hb
      · omega
      · exact ih _ b hb
  intro b hb
  unfold M.cbitsL at hb
  obtain ⟨c, _, hc⟩ := List.mem_flatMap.1 hb
  exact key _ _ b hc
theorem pleachref02_On.len (l : List UInt8) : (M.cbitsL l).length = 8 * l.length := by
  induction l with
  | nil => rfl
  | cons c l ih =>
    unfold M.cbitsL at ih ⊢
    rw [List.flatMap_cons, List.length_append, ih, List.length_cons]
    simp [M.cbits]; omega
theorem pleachref02_On.ev (n : Int) (s : ByteArray) (r : Int) (h : pleachref02_On.f n s = some r) : ∃ k, pleachref02_On_p.f k n s = some r := by
  unfold pleachref02_On.f at h
  split at h
  case isFalse => cases h
  case isTrue hh =>
    obtain ⟨h0, h1, hs⟩ := hh
    obtain ⟨m, rfl⟩ := Int.eq_ofNat_of_zero_le h0
    refine ⟨(M.cbitsL (M.bs s)).length + 1, ?_⟩
    have hl := pleachref02_On.len (M.bs s)
    have hz := M.bs_length s
    have := pleachref02_On.loop (M.cbitsL (M.bs s)) (by omega) (pleachref02_On.small _) (M.cbitsL (M.bs s)).length 0 (4294967295 - m) (by omega) (by omega)
    rw [List.drop_zero, M.crun_bits, show ((0 : Nat) : Int) = 0 from rfl] at this
    rw [← h]
    unfold pleachref02_On_p.f pleachref02_bits.f
    rw [if_pos hs, Option.bind_some, Int.emod_eq_of_lt (by omega) (by omega), show (4294967295 : Int) - ((m : Nat) : Int) = ((4294967295 - m : Nat) : Int) from by omega, this, Int.toNat_natCast]; rfl
theorem pleachref02_On.calls (a0 : Int) (a1 : ByteArray) (r : Int) (w : World) (h : pleachref02_On.f a0 a1 = some r) :
    Calls Tryd.prog 28 #[.int .u32 a0, .string a1] w fun e w' => e = .returned (.int .u32 r) ∧ Below w.heap.size w w' := by
  obtain ⟨k, hk⟩ := pleachref02_On.ev _ _ _ h
  exact pleachref02_On_p.calls (k := k) (w := w) (h := hk)

end Go.Proofs.YtacjpkfpniolmaaDoor.EFrameTakes
