-- Laid by this session's own program (wip/tools/fold.py): this session's texts, cut to what the claim names and put together; Lean checks it.
import Derived.Test.YtopllfdjlbnmfaaDoorVTreeChildren1
import Derived.Test.YtopllfdjlbnmfaaDoorVTreeChildren14
import Derived.Test.YtopllfdjlbnmfaaDoorXTreeChildren1
namespace Go.Proofs.YtopllfdjlbnmfaaDoor.ETreeChildren
open Go.RowKit Go.Proofs.YtopllfdjlbnmfaaDoorW.PrintWords Go.Proofs.YtopllfdjlbnmfaaDoorW.PrintLast Go.Proofs.YtopllfdjlbnmfaaDoorW.PrintMore
attribute [local go_sem] M.run_leq M.run_gtr M.run_geq max2_int min2_int max_two min_two max_three min_three max_four min_four
set_option linter.unusedVariables false
set_option linter.unusedSimpArgs false
mutual
def pleachref20_Child.j0 : Nat → Int → Bool → List ByteArray → List ByteArray → ByteArray → ByteArray → Int → List (S78) → List Int → Option (Int × (List (S78)) × List Int × Int)
  | 0, _, _, _, _, _, _, _, _, _ => none
  | k + 1, x2, x30, zaa, zab, zac, zad, zae, zaf, zag => if x30 = true then (some (0, ([] : List (S78)), ([] : List Int), 8)) else (if 0 ≤ x2 then (if x2 < (zaf.length : Int) then ((pleachref20_Load.f zaa zab zac zad ((rd_T78 zaf x2).f1)).bind fun bt406 => (if bt406.2.2.2 = true then (if bt406.1 = (wrap64 (zae - 1)) then (pleachref20_Child.j1 k x2 ((bt406.2.1.length : Int) == 0) zae zaf zag bt406.1 bt406.2.1 bt406.2.2.1) else (pleachref20_Child.j1 k x2 true zae zaf zag bt406.1 bt406.2.1 bt406.2.2.1)) else (pleachref20_Child.j1 k x2 true zae zaf zag bt406.1 bt406.2.1 bt406.2.2.1))) else (none)) else (none))
def pleachref20_Child.j1 : Nat → Int → Bool → Int → List (S78) → List Int → Int → List (S78) → List Int → Option (Int × (List (S78)) × List Int × Int)
  | 0, _, _, _, _, _, _, _, _ => none
  | k + 1, x2, x58, zae, zaf, zag, zah, zai, zaj => if x58 = true then (some (0, ([] : List (S78)), ([] : List Int), 16)) else (if 0 ≤ (wrap64 ((zai.length : Int) - 1)) then (if (wrap64 ((zai.length : Int) - 1)) < (zai.length : Int) then (if 0 ≤ x2 then (if x2 < (zaf.length : Int) then (if ((rd_T78 zai (wrap64 ((zai.length : Int) - 1))).f0).toList = ((rd_T78 zaf x2).f0).toList then ((pleachref19_Total.f k zah zai zaj).bind fun t417 => (if x2 < (zag.length : Int) then (if t417 = (rd zag x2) then (if x2 > 0 then (if 0 < (zai.length : Int) then (if 0 ≤ (wrap64 (x2 - 1)) then (if (wrap64 (x2 - 1)) < (zaf.length : Int) then (pleachref20_Child.j2 k (!(Op.bytesLess (((rd_T78 zaf (wrap64 (x2 - 1))).f0).toList) (((rd_T78 zai 0).f0).toList))) zah zai zaj) else (none)) else (none)) else (none)) else (pleachref20_Child.j2 k false zah zai zaj)) else (pleachref20_Child.j2 k true zah zai zaj)) else (none))) else (pleachref20_Child.j2 k true zah zai zaj)) else (none)) else (none)) else (none)) else (none))
def pleachref20_Child.j2 : Nat → Bool → Int → List (S78) → List Int → Option (Int × (List (S78)) × List Int × Int)
  | 0, _, _, _, _ => none
  | k + 1, x104, zah, zai, zaj => if x104 = true then (some (0, ([] : List (S78)), ([] : List Int), 16)) else (some (zah, zai, zaj, 0))
end
def pleachref20_Child.f (k : Nat) (l0_0 : List ByteArray) (l0_1 : List ByteArray) (a0_2 : ByteArray) (a0_3 : ByteArray) (a1_0 : Int) (l1_1 : List (S78)) (l1_2 : List Int) (a2 : Int) : Option (Int × (List (S78)) × List Int × Int) := if a1_0 < 1 then (pleachref20_Child.j0 k a2 true l0_0 l0_1 a0_2 a0_3 a1_0 l1_1 l1_2) else (if a2 < 0 then (pleachref20_Child.j0 k a2 true l0_0 l0_1 a0_2 a0_3 a1_0 l1_1 l1_2) else (if a2 ≥ (l1_1.length : Int) then (pleachref20_Child.j0 k a2 true l0_0 l0_1 a0_2 a0_3 a1_0 l1_1 l1_2) else (pleachref20_Child.j0 k a2 (decide (a2 ≥ (l1_2.length : Int))) l0_0 l0_1 a0_2 a0_3 a1_0 l1_1 l1_2)))
theorem pleachref20_Child.mono_l : ∀ k, (∀ y0 y1 y2 y3 y4 y5 y6 y7 y8, LeO (pleachref20_Child.j0 k y0 y1 y2 y3 y4 y5 y6 y7 y8) (pleachref20_Child.j0 (k + 1) y0 y1 y2 y3 y4 y5 y6 y7 y8)) ∧ (∀ y0 y1 y2 y3 y4 y5 y6 y7, LeO (pleachref20_Child.j1 k y0 y1 y2 y3 y4 y5 y6 y7) (pleachref20_Child.j1 (k + 1) y0 y1 y2 y3 y4 y5 y6 y7)) ∧ (∀ y0 y1 y2 y3, LeO (pleachref20_Child.j2 k y0 y1 y2 y3) (pleachref20_Child.j2 (k + 1) y0 y1 y2 y3))
  | 0 => ⟨fun _ _ _ _ _ _ _ _ _ r h => by simp [pleachref20_Child.j0] at h, fun _ _ _ _ _ _ _ _ r h => by simp [pleachref20_Child.j1] at h, fun _ _ _ _ r h => by simp [pleachref20_Child.j2] at h⟩
  | k + 1 => by
    obtain ⟨ih0, ih1, ih2⟩ := pleachref20_Child.mono_l k
    refine ⟨?_, ?_, ?_⟩
    · intro y0 y1 y2 y3 y4 y5 y6 y7 y8
      unfold pleachref20_Child.j0
      repeat' first
      | (with_reducible exact ih1 _ _ _ _ _ _ _ _)
      | (with_reducible exact LeO.refl _)
      | (with_reducible refine LeO.ite ?_ ?_)
      | (with_reducible refine LeO.bind ?_ (fun _ => ?_))
    · intro y0 y1 y2 y3 y4 y5 y6 y7
      unfold pleachref20_Child.j1
      repeat' first
      | (with_reducible exact ih2 _ _ _ _)
      | (with_reducible exact pleachref19_Total.mono _ _ _ _)
      | (with_reducible exact LeO.refl _)
      | (with_reducible refine LeO.ite ?_ ?_)
      | (with_reducible refine LeO.bind ?_ (fun _ => ?_))
    · intro y0 y1 y2 y3
      unfold pleachref20_Child.j2
      repeat' (with_reducible exact LeO.refl _)
theorem pleachref20_Child.mono : ∀ a0 a1 a2 a3 a4 a5 a6 a7 k, LeO (pleachref20_Child.f k a0 a1 a2 a3 a4 a5 a6 a7) (pleachref20_Child.f (k + 1) a0 a1 a2 a3 a4 a5 a6 a7) := by
  intro a0 a1 a2 a3 a4 a5 a6 a7 k
  obtain ⟨ih0, ih1, ih2⟩ := pleachref20_Child.mono_l k
  unfold pleachref20_Child.f
  repeat' first
      | (with_reducible exact ih0 _ _ _ _ _ _ _ _ _)
      | (with_reducible refine LeO.ite ?_ ?_)
def pleachref20_Child.T3 : Bool × List (List Nat × List Nat) := (true, [([], []), ([], []), ([1], [1]), ([], []), ([2, 3], [2, 3]), ([4], [4]), ([5], [5]), ([0, 6], [0, 6]), ([7], [7]), ([8], [8]), ([8], [8]), ([], []), ([11, 9, 7, 0, 1, 2, 3, 4, 5, 6, 7, 8, 9, 11], [9, 11]), ([10, 12, 0, 1, 2, 3, 4, 5, 6, 7, 8, 9, 10, 11, 12], [10])])
def pleachref20_Child.B3 : List Nat := [0, 0, 2, 0, 14, 30, 62, 127, 255, 511, 511, 0, 3071, 8191]
theorem pleachref20_Child.tab3 : rtab .any (opsOf Tryd.f10 3) = pleachref20_Child.T3 := by kernel_rfl
theorem pleachref20_Child.bits3 : waitsOk pleachref20_Child.T3.2 pleachref20_Child.B3 = true := by kernel_rfl
def pleachref20_Child.T6 : Bool × List (List Nat × List Nat) := (true, [([], []), ([0], [0]), ([], []), ([2], [2]), ([3], [3]), ([4], [4]), ([1, 5], [1, 5]), ([6], [6]), ([7], [7]), ([], []), ([9], [9]), ([], []), ([10, 11], [10, 11]), ([12], [12]), ([13], [13]), ([8, 14], [8, 14]), ([15], [15]), ([16], [16]), ([17, 16, 16], [16, 17]), ([16], [16]), ([19, 16], [16, 19]), ([16], [16]), ([20, 21, 16], [16, 20, 21]), ([22, 16], [16, 22]), ([18, 23, 16], [16, 18, 23]), ([16, 24], [16, 24]), ([25, 18], [25]), ([26], [26]), ([27, 26], [26, 27]), ([28, 26, 26], [26, 28]), ([29], [29]), ([30, 29], [29, 30]), ([31, 29], [29, 31]), ([32, 29], [29, 32]), ([33, 29], [29, 33]), ([29], [29]), ([35, 29], [29, 35]), ([29], [29]), ([37, 29], [29, 37]), ([36, 38, 29], [29, 36, 38]), ([39, 29], [29, 39]), ([40, 29], [29, 40]), ([34, 41, 29], [29, 34, 41]), ([29, 42, 26], [26, 29, 42]), ([26, 43], [26, 43])])
def pleachref20_Child.B6 : List Nat := [0, 1, 0, 4, 12, 28, 63, 127, 255, 0, 512, 0, 3584, 7680, 15872, 32767, 65535, 131071, 262143, 131071, 655359, 131071, 3801087, 7995391, 16777215, 33554431, 67108863, 134217727, 268435455, 536870911, 1073741823, 2147483647, 4294967295, 8589934591, 17179869183, 1073741823, 35433480191, 1073741823, 138512695295, 516469817343, 1066225631231, 2165737259007, 4398046511103, 8796093022207, 17592186044415]
theorem pleachref20_Child.tab6 : rtab .any (opsOf Tryd.f10 6) = pleachref20_Child.T6 := by kernel_rfl
theorem pleachref20_Child.bits6 : waitsOk pleachref20_Child.T6.2 pleachref20_Child.B6 = true := by kernel_rfl
set_option maxHeartbeats 8000000 in
set_option maxRecDepth 100000 in
theorem pleachref20_Child.calls (k : Nat) (A0_0 : Option Addr) (c0_0 : Nat) (l0_0 : List ByteArray) (A0_1 : Option Addr) (c0_1 : Nat) (l0_1 : List ByteArray) (a0_2 : ByteArray) (a0_3 : ByteArray) (a1_0 : Int) (A1_1 : Option Addr) (c1_1 : Nat) (l1_1 : List (S78)) (A1_2 : Option Addr) (c1_2 : Nat) (l1_2 : List Int) (a2 : Int) (r1 : Int) (r2 : List (S78)) (r3 : List Int) (r4 : Int) (w : World) (hr0_0 : Kd.C Kd.string w A0_0 l0_0.length l0_0) (hc0_0 : l0_0.length ≤ c0_0) (hr0_1 : Kd.C Kd.string w A0_1 l0_1.length l0_1) (hc0_1 : l0_1.length ≤ c0_1) (hr1_1 : Kd.C k78 w A1_1 l1_1.length l1_1) (hc1_1 : l1_1.length ≤ c1_1) (hr1_2 : Kd.C (Kd.int .i64) w A1_2 l1_2.length l1_2) (hc1_2 : l1_2.length ≤ c1_2) (h : pleachref20_Child.f k l0_0 l0_1 a0_2 a0_3 a1_0 l1_1 l1_2 a2 = some (r1, r2, r3, r4)) :
    Calls Tryd.prog 10 #[.agg #[.slice A0_0 l0_0.length c0_0, .slice A0_1 l0_1.length c0_1, .string a0_2, .string a0_3], .agg #[.int .i64 a1_0, .slice A1_1 l1_1.length c1_1, .slice A1_2 l1_2.length c1_2], .int .i64 a2] w fun e w' => ∃ v1_ v2_ : Value, e = .returned (.tuple #[.agg #[.int .i64 r1, v1_, v2_], .int .i64 r4]) ∧ Kd.R k78 78 w' w.heap.size (fun _ => True) v1_ r2 ∧ Kd.R (Kd.int .i64) 3 w' w.heap.size (fun _ => True) v2_ r3 ∧ Below w.heap.size w w' := by
 have hu31 := Tryd.underlying31
 have hu26 := Tryd.underlying26
 have HR0_0 := Aside0.mk hr0_0
 have HC0_0 := Aside0.mk hc0_0
 clear hr0_0 hc0_0
 have HR0_1 := Aside0.mk hr0_1
 have HC0_1 := Aside0.mk hc0_1
 clear hr0_1 hc0_1
 have HR1_1 := Aside0.mk hr1_1
 have HC1_1 := Aside0.mk hc1_1
 clear hr1_1 hc1_1
 have HR1_2 := Aside0.mk hr1_2
 have HC1_2 := Aside0.mk hc1_2
 clear hr1_2 hc1_2
 have HB := Aside0.mk (Below.refl w.heap.size w)
 have H := h; unfold pleachref20_Child.f at H
 clear h
 have HC4 := Aside0.mk H
 clear H
 go_enter Tryd.func10, Tryd.ntmps10
 go_upto_region 1 with (first | ((with_reducible refine gate_dst (N := 3) rfl ?_); ((refine gate_guard (by rfl) ?_; dsimp only)); refine M.bx 3 31 (#[.slice A0_0 l0_0.length c0_0, .slice A0_1 l0_1.length c0_1, .string a0_2, .string a0_3]) ?_; intro zak hg w5 hbox hb; have zal := Aside0.mk (hbox); have zam := M.upG HB hg; have zan := M.upG HB hg; replace HB := M.upS HB hb; clear hb hbox hg) | ((with_reducible refine gate_dst (N := 4) rfl ?_); ((refine gate_guard (by rfl) ?_; dsimp only)); refine M.bx 4 26 (#[.int .i64 a1_0, .slice A1_1 l1_1.length c1_1, .slice A1_2 l1_2.length c1_2]) ?_; intro zao hg w6 hbox hb; have zap := Aside0.mk (hbox); have zaq := M.upG HB hg; have zar := M.upG HB hg; replace HB := M.upS HB hb; have zas := M.bkL zal hg; have zat := M.bkG zal hg; replace zal := M.bkB zal hb; clear hb hbox hg) | ((with_reducible refine gate_dst (N := 6) rfl ?_); ((refine gate_guard (by rfl) ?_; dsimp only)); refine M.bx 6 26 (#[.int .i64 0, .slice none 0 0, .slice none 0 0]) ?_; intro zau hg w7 hbox hb; have zav := Aside0.mk (hbox); have zaw := M.upG HB hg; have zax := M.upG HB hg; replace HB := M.upS HB hb; have zay := M.bkL zal hg; have zaz := M.bkG zal hg; replace zal := M.bkB zal hb; have zaA := M.bkL zap hg; have zaB := M.bkG zap hg; replace zap := M.bkB zap hb; clear hb hbox hg))
 go_cut [30] (fun v30 wc => ∃ (kq : Nat) (x30_3 : Bool), v30 = .bool x30_3 ∧ Aside0 (pleachref20_Child.j0 kq a2 x30_3 l0_0 l0_1 a0_2 a0_3 a1_0 l1_1 l1_2 = some (r1, r2, r3, r4)) ∧ Aside0 (kq ≤ k) ∧ Aside0 (wc.heap[zak]? = some (.cells #[(.slice A0_0 l0_0.length c0_0), (.slice A0_1 l0_1.length c0_1), .string a0_2, .string a0_3] 31 (0, 0))) ∧ Aside0 (wc.heap[zao]? = some (.cells #[.int .i64 a1_0, (.slice A1_1 l1_1.length c1_1), (.slice A1_2 l1_2.length c1_2)] 26 (0, 0))) ∧ Aside0 (wc.heap[zau]? = some (.cells #[.int .i64 0, (.slice none 0 0), (.slice none 0 0)] 26 (0, 0))) ∧ Aside0 (Below w.heap.size w wc))
 case first =>
  have H := HC4.out
  clear HC4
  by_cases c8 : a1_0 < 1
  ·rw [if_pos c8] at H
   have c8b0 := decide_eq_true c8
   clear c8
   ((skip))
   have H' := Aside0.mk H
   clear H
   have zaC := zat.out
   have zaD := zas.out
   have zaE := zaA.out
   have zaF := zaB.out
   obtain ⟨zaG, zaH, zaI⟩ := M.bc3 (w := w7) (a := .int .i64 a1_0) (b := .slice A1_1 l1_1.length c1_1) (c := .slice A1_2 l1_2.length c1_2) zap.out
   obtain ⟨zaJ, zaK, zaL⟩ := M.bf3 zap
   go_wp2
   go_meet
   case rel => exact ⟨_, (true), M.eqv, H', ⟨by (omega)⟩, ⟨M.bk zal⟩, ⟨M.bk zap⟩, ⟨M.bk zav⟩, ⟨M.up HB⟩⟩
  ·rw [if_neg c8] at H
   have c8b0 := decide_eq_false c8
   clear c8
   ((skip))
   by_cases c12 : a2 < 0
   ·rw [if_pos c12] at H
    have c12b0 := decide_eq_true c12
    clear c12
    have H' := Aside0.mk H
    clear H
    have zaM := zat.out
    have zaN := zas.out
    have zaO := zaA.out
    have zaP := zaB.out
    obtain ⟨zaQ, zaR, zaS⟩ := M.bc3 (w := w7) (a := .int .i64 a1_0) (b := .slice A1_1 l1_1.length c1_1) (c := .slice A1_2 l1_2.length c1_2) zap.out
    obtain ⟨zaT, zaU, zaV⟩ := M.bf3 zap
    go_wp2
    go_meet
    case rel => exact ⟨_, (true), M.eqv, H', ⟨by (omega)⟩, ⟨M.bk zal⟩, ⟨M.bk zap⟩, ⟨M.bk zav⟩, ⟨M.up HB⟩⟩
   ·rw [if_neg c12] at H
    have c12b0 := decide_eq_false c12
    clear c12
    by_cases c16 : a2 ≥ (l1_1.length : Int)
    ·rw [if_pos c16] at H
     have c16b0 := decide_eq_true c16
     clear c16
     have H' := Aside0.mk H
     clear H
     have zaW := zat.out
     have zaX := zas.out
     have zaY := zaA.out
     have zaZ := zaB.out
     obtain ⟨za0, za1, za2⟩ := M.bc3 (w := w7) (a := .int .i64 a1_0) (b := .slice A1_1 l1_1.length c1_1) (c := .slice A1_2 l1_2.length c1_2) zap.out
     obtain ⟨za3, za4, za5⟩ := M.bf3 zap
     go_wp2
     go_meet
     case rel => exact ⟨_, (true), M.eqv, H', ⟨by (omega)⟩, ⟨M.bk zal⟩, ⟨M.bk zap⟩, ⟨M.bk zav⟩, ⟨M.up HB⟩⟩
    ·rw [if_neg c16] at H
     have c16b0 := decide_eq_false c16
     clear c16
     have H' := Aside0.mk H
     clear H
     have za6 := zat.out
     have za7 := zas.out
     have za8 := zaA.out
     have za9 := zaB.out
     obtain ⟨zba, zbb, zbc⟩ := M.bc3 (w := w7) (a := .int .i64 a1_0) (b := .slice A1_1 l1_1.length c1_1) (c := .slice A1_2 l1_2.length c1_2) zap.out
     obtain ⟨zbd, zbe, zbf⟩ := M.bf3 zap
     go_wp2
     go_meet
     case rel => exact ⟨_, (decide (a2 ≥ (l1_2.length : Int))), M.eqv, H', ⟨by (omega)⟩, ⟨M.bk zal⟩, ⟨M.bk zap⟩, ⟨M.bk zav⟩, ⟨M.up HB⟩⟩
 case rest =>
  clear HC4
  obtain ⟨kq, x30_3, rfl, HA, HJ3, zal, zap, zav, HB⟩ := hcut
  cases kq with
  | zero => exact absurd HA.out (by simp [pleachref20_Child.j0])
  | succ kj3 =>
   have H := HA.out
   clear HA
   simp only [pleachref20_Child.j0] at H
   by_cases c23 : x30_3 = true
   ·subst c23
    have H1 := H; rw [if_pos rfl] at H1
    clear H
    have H := H1
    clear H1
    simp only [Option.some.injEq, Prod.mk.injEq] at H
    obtain ⟨rfl, rfl, rfl, rfl⟩ := H
    have zbg := zaz.out
    have zbh := zay.out
    have zbi := zaB.out
    have zbj := zaA.out
    obtain ⟨zbk, zbl, zbm⟩ := M.bc3 (w := wc) (a := .int .i64 0) (b := .slice none 0 0) (c := .slice none 0 0) zav.out
    obtain ⟨zbn, zbo, zbp⟩ := M.bf3 zav
    go_wp2
    refine bodyPost_ret (results_ct rfl _ _ zau 26 #[.int .i64 0, .slice none 0 0, .slice none 0 0] (0, 0) _ rfl (by refine M.fp (cs := #[.int .i64 0, .slice none 0 0, .slice none 0 0]) ?_ 2; refine M.fp (cs := #[.int .i64 0, .slice none 0 0, .slice none 0 0]) ?_ 1; refine M.fp (cs := #[.int .i64 0, .slice none 0 0, .slice none 0 0]) ?_ 0; exact M.bk zav) Tryd.underlying26 rfl (by kernel_rfl)) rfl ?_
    exact ⟨_, _, M.eqe, M.nl, M.nl, M.up HB⟩
   ·replace c23 := Bool.eq_false_iff.mpr c23
    subst c23
    have H1 : (if 0 ≤ a2 then (if a2 < (l1_1.length : Int) then ((pleachref20_Load.f l0_0 l0_1 a0_2 a0_3 ((rd_T78 l1_1 a2).f1)).bind fun bt406 => (if bt406.2.2.2 = true then (if bt406.1 = (wrap64 (a1_0 - 1)) then (pleachref20_Child.j1 kj3 a2 ((bt406.2.1.length : Int) == 0) a1_0 l1_1 l1_2 bt406.1 bt406.2.1 bt406.2.2.1) else (pleachref20_Child.j1 kj3 a2 true a1_0 l1_1 l1_2 bt406.1 bt406.2.1 bt406.2.2.1)) else (pleachref20_Child.j1 kj3 a2 true a1_0 l1_1 l1_2 bt406.1 bt406.2.1 bt406.2.2.1))) else (none)) else (none)) = some (r1, r2, r3, r4) := by rw [if_neg (show ¬ (false = true) by decide)] at H; exact H
    clear H
    have H := H1
    clear H1
    by_cases c27 : 0 ≤ a2
    ·rw [if_pos c27] at H
     have c27b0 := decide_eq_true c27
     clear c27
     by_cases c28 : a2 < (l1_1.length : Int)
     ·rw [if_pos c28] at H
      have c28b0 := decide_eq_true c28
      clear c28
      replace H := Option.bind_eq_some_iff.mp H
      obtain ⟨⟨t406, t407, t410, t413⟩, A290, H⟩ := H
      try simp only at H
      have A29 := Aside0.mk A290
      clear A290
      have HC30 := Aside0.mk H
      clear H
      try go_wp2
      replace zal := Aside0.mk (blk_drew zal.out); replace zap := Aside0.mk (blk_drew zap.out); replace zav := Aside0.mk (blk_drew zav.out); replace HB := Aside0.mk (below_drew1 HB.out)
      have p405 : 0 ≤ (a2 : Int) := M.dt
      have q405 : a2 < (l1_1.length : Int) := M.dt
      obtain ⟨ad405, e405, hx405_0, hx405_1⟩ := at_T78 HR1_1.out a2 p405 q405
      have hw405_1 := hx405_1
      have hw405_0 := hx405_0
      cases e405
      replace hx405_0 := M.hc HB hx405_0
      replace hx405_1 := M.hc HB hx405_1
      replace p405 := eq_true p405
      replace q405 := eq_true q405
      refine start_ (n := 14) (S := fun w' => w'.cell? ⟨zak, 0, none⟩ = some (.slice A0_0 l0_0.length c0_0) ∧ w'.cell? ⟨zak, 1, none⟩ = some (.slice A0_1 l0_1.length c0_1) ∧ w'.cell? ⟨zak, 2, none⟩ = some (.string a0_2) ∧ w'.cell? ⟨zak, 3, none⟩ = some (.string a0_3) ∧ w'.cell? ⟨zao, 0, none⟩ = some (.int .i64 a1_0) ∧ w'.cell? ⟨zao, 1, none⟩ = some (.slice (some ad405) l1_1.length c1_1) ∧ w'.cell? ⟨zao, 2, none⟩ = some (.slice A1_2 l1_2.length c1_2) ∧ w'.cell? (ad405.add ((a2).toNat * 2)) = some (.string ((rd_T78 l1_1 a2).f0)) ∧ w'.cell? ⟨(ad405.add ((a2).toNat * 2)).block, (ad405.add ((a2).toNat * 2)).off + 1, none⟩ = some (.string ((rd_T78 l1_1 a2).f1))) (ds := []) (M.tf [0, 14]) (by kernel_rfl) rfl rfl ⟨(blk_cell zal.out 0).trans rfl, (blk_cell zal.out 1).trans rfl, (blk_cell zal.out 2).trans rfl, (blk_cell zal.out 3).trans rfl, (blk_cell zap.out 0).trans rfl, (blk_cell zap.out 1).trans rfl, (blk_cell zap.out 2).trans rfl, ((HB.out.cell (World.block_lt_of_cell? w _ hw405_0)).trans hw405_0), ((HB.out.cell (World.block_lt_of_cell? w _ hw405_1)).trans hw405_1)⟩ (fun hHeld => ?_); refine with_tabW pleachref20_Child.tab3 pleachref20_Child.bits3 (fun HT_ HW_ => ?_)
      generalize wc.drew = w31 at zal zap zav HB hx405_0 hx405_1 hHeld ⊢
      refine M.pu 1 34 [0, 1, 1, 12] HT_ ?_
      refine M.pu 3 36 [0, 1, 1, 1, 1, 10] HT_ ?_
      refine M.tk 0 33 [2, 1, 1, 10] HT_ HW_ hHeld ?_
      refine M.tk 2 35 [4, 10] HT_ HW_ hHeld ?_
      refine M.pu 4 37 [5, 9] HT_ ?_
      refine M.pu 5 38 [6, 8] HT_ ?_
      refine M.tk 6 39 [7, 7] HT_ HW_ hHeld ?_
      refine join_ (σ := Value × Value × Nat) 2 (M.tf [12, 2]) (fun s_ => [(40, .tuple #[.agg #[.int .i64 t406, s_.1, s_.2.1], .bool t413]), (8, .pointer (some ⟨s_.2.2, 0, none⟩)), (32, .tuple #[.agg #[.int .i64 t406, s_.1, s_.2.1], .bool t413]), (41, .agg #[.int .i64 t406, s_.1, s_.2.1]), (42, .bool t413)]) (fun s_ w' => (w'.cell? ⟨zak, 0, none⟩ = some (.slice A0_0 l0_0.length c0_0) ∧ w'.cell? ⟨zak, 1, none⟩ = some (.slice A0_1 l0_1.length c0_1) ∧ w'.cell? ⟨zak, 2, none⟩ = some (.string a0_2) ∧ w'.cell? ⟨zak, 3, none⟩ = some (.string a0_3) ∧ w'.cell? ⟨zao, 0, none⟩ = some (.int .i64 a1_0) ∧ w'.cell? ⟨zao, 1, none⟩ = some (.slice (some ad405) l1_1.length c1_1) ∧ w'.cell? ⟨zao, 2, none⟩ = some (.slice A1_2 l1_2.length c1_2) ∧ w'.cell? (ad405.add ((a2).toNat * 2)) = some (.string ((rd_T78 l1_1 a2).f0)) ∧ w'.cell? ⟨(ad405.add ((a2).toNat * 2)).block, (ad405.add ((a2).toNat * 2)).off + 1, none⟩ = some (.string ((rd_T78 l1_1 a2).f1))) ∧ (Kd.R k78 78 w' w.heap.size (fun _ => True) s_.1 t407) ∧ (Kd.R (Kd.int .i64) 3 w' w.heap.size (fun _ => True) s_.2.1 t410) ∧ (w'.heap[zak]? = some (.cells #[.slice A0_0 l0_0.length c0_0, .slice A0_1 l0_1.length c0_1, .string a0_2, .string a0_3] 31 (0, 0))) ∧ (w'.heap[zao]? = some (.cells #[.int .i64 a1_0, .slice (some ad405) l1_1.length c1_1, .slice A1_2 l1_2.length c1_2] 26 (0, 0))) ∧ (w'.heap[zau]? = some (.cells #[.int .i64 0, .slice none 0 0, .slice none 0 0] 26 (0, 0))) ∧ (w'.heap[s_.2.2]? = some (.cells #[.int .i64 0, .slice none 0 0, .slice none 0 0] 26 (0, 0))) ∧ (w.heap.size ≤ s_.2.2) ∧ (w.heap.size ≤ s_.2.2) ∧ (zak ≠ s_.2.2) ∧ (s_.2.2 ≠ zak) ∧ (zao ≠ s_.2.2) ∧ (s_.2.2 ≠ zao) ∧ (zau ≠ s_.2.2) ∧ (s_.2.2 ≠ zau) ∧ (Below w.heap.size w w')) ?_ ?_
      rotate_left
      ·intro hCont
       refine two_ (i := 7) (j := 11) (Ni := some 40) (Nj := some 8) (M.tf [8, 6]) (M.tf [7, 4, 1, 2]) rfl rfl rfl rfl (two_of HT_.out (by kernel_rfl)) (by decide) (by decide) (fun K hK => ?_) (fun K hK => ?_)
       ·skip
        refine goes_ Tryd.func12 (by kernel_rfl) rfl #[.agg #[.slice A0_0 l0_0.length c0_0, .slice A0_1 l0_1.length c0_1, .string a0_2, .string a0_3], .string ((rd_T78 l1_1 a2).f1)] (by rfl) rfl rfl (by simp only [List.map_toArray, List.map_cons, List.map_nil]; (rfl)) ?_
        with_reducible refine (pleachref20_Load.calls _ _ l0_0 _ _ l0_1 a0_2 a0_3 ((rd_T78 l1_1 a2).f1) t406 t407 t410 t413 _ ?side1 ?side2 ?side3 ?side4 A29.out).mono ?_
        (case side1 => exact M.cB HR0_0 HB)
        (case side2 => exact HC0_0.out)
        (case side3 => exact M.cB HR0_1 HB)
        (case side4 => exact HC0_1.out)
        rintro e w32 ⟨v408, v411, rfl, ho0, ho1, hb⟩
        refine ⟨_, rfl, ?_⟩
        have HO409 := Aside0.mk (Kd.R_lower ho0 (below_size (M.up HB))); have HO412 := Aside0.mk (Kd.R_lower ho1 (below_size (M.up HB))); replace zal := M.bkB zal hb; replace zap := M.bkB zap hb; replace zav := M.bkB zav hb; replace HB := M.upS HB hb
        clear hb
        clear ho0
        clear ho1
        refine hK.out _ _ ⟨(blk_cell zal.out 0).trans rfl, (blk_cell zal.out 1).trans rfl, (blk_cell zal.out 2).trans rfl, (blk_cell zal.out 3).trans rfl, (blk_cell zap.out 0).trans rfl, (blk_cell zap.out 1).trans rfl, (blk_cell zap.out 2).trans rfl, ((HB.out.cell (World.block_lt_of_cell? w _ hw405_0)).trans hw405_0), ((HB.out.cell (World.block_lt_of_cell? w _ hw405_1)).trans hw405_1)⟩ (fun hHeld => ?_)
        clear hK K
        refine norm_ (a' := ?_) ?_ ?_
        rotate_left
        ·show Act.put _ (some 40) _ = _
         simp only [Act.put, List.setIfInBounds_toArray, List.set_cons_zero, List.set_cons_succ, i64_w, i32_w]
         rfl
        refine M.pu 8 32 [9, 5] HT_ ?_
        refine M.pu 9 41 [10, 4] HT_ ?_
        refine M.pu 10 42 [11, 3] HT_ ?_
        refine one_ (i := 11) (N := some 8) (M.tf [12, 2]) rfl rfl (one_of HT_.out (by kernel_rfl)) (by decide) (fun K hK => ?_)
        refine box_step ?hg (N := 8) ?hd (cs := #[.int .i64 0, .slice none 0 0, .slice none 0 0]) (t := 26) ?hr ?_; (case hd => rfl); (case hg => rfl); (case hr => (go_simp; done))
        intro zbq hg w33 hbox hb
        replace HO409 := M.roB HO409 hb; replace HO412 := M.roB HO412 hb; have zbr := Aside0.mk (hbox); have zbs := M.upG HB hg; have zbt := M.upG HB hg; replace HB := M.upS HB hb; have zbu := M.bkL zal hg; have zbv := M.bkG zal hg; replace zal := M.bkB zal hb; have zbw := M.bkL zap hg; have zbx := M.bkG zap hg; replace zap := M.bkB zap hb; have zby := M.bkL zav hg; have zbz := M.bkG zav hg; replace zav := M.bkB zav hb
        clear hb hbox hg
        refine hK.out _ _ ⟨(blk_cell zal.out 0).trans rfl, (blk_cell zal.out 1).trans rfl, (blk_cell zal.out 2).trans rfl, (blk_cell zal.out 3).trans rfl, (blk_cell zap.out 0).trans rfl, (blk_cell zap.out 1).trans rfl, (blk_cell zap.out 2).trans rfl, ((HB.out.cell (World.block_lt_of_cell? w _ hw405_0)).trans hw405_0), ((HB.out.cell (World.block_lt_of_cell? w _ hw405_1)).trans hw405_1)⟩ (fun hHeld => ?_)
        clear hK K
        refine norm_ (a' := ?_) ?_ ?_
        rotate_left
        ·show Act.put _ (some 8) _ = _
         simp only [Act.put, List.setIfInBounds_toArray, List.set_cons_zero, List.set_cons_succ, i64_w, i32_w]
         rfl
        exact norm_ (by simp only [putAll, Act.put, List.setIfInBounds_toArray, List.set_cons_zero, List.set_cons_succ]) (hCont (v408, v411, zbq) _ ⟨hHeld, (M.ro HO409), (M.ro HO412), (M.bk zal), (M.bk zap), (M.bk zav), (M.bk zbr), zbs.out, zbt.out, zbu.out, zbv.out, zbw.out, zbx.out, zby.out, zbz.out, (M.up HB)⟩)
       ·skip
        refine box_step ?hg (N := 8) ?hd (cs := #[.int .i64 0, .slice none 0 0, .slice none 0 0]) (t := 26) ?hr ?_; (case hd => rfl); (case hg => rfl); (case hr => (go_simp; done))
        intro zbq hg w32 hbox hb
        have zbr := Aside0.mk (hbox); have zbs := M.upG HB hg; have zbt := M.upG HB hg; replace HB := M.upS HB hb; have zbu := M.bkL zal hg; have zbv := M.bkG zal hg; replace zal := M.bkB zal hb; have zbw := M.bkL zap hg; have zbx := M.bkG zap hg; replace zap := M.bkB zap hb; have zby := M.bkL zav hg; have zbz := M.bkG zav hg; replace zav := M.bkB zav hb
        clear hb hbox hg
        refine hK.out _ _ ⟨(blk_cell zal.out 0).trans rfl, (blk_cell zal.out 1).trans rfl, (blk_cell zal.out 2).trans rfl, (blk_cell zal.out 3).trans rfl, (blk_cell zap.out 0).trans rfl, (blk_cell zap.out 1).trans rfl, (blk_cell zap.out 2).trans rfl, ((HB.out.cell (World.block_lt_of_cell? w _ hw405_0)).trans hw405_0), ((HB.out.cell (World.block_lt_of_cell? w _ hw405_1)).trans hw405_1)⟩ (fun hHeld => ?_)
        clear hK K
        refine norm_ (a' := ?_) ?_ ?_
        rotate_left
        ·show Act.put _ (some 8) _ = _
         simp only [Act.put, List.setIfInBounds_toArray, List.set_cons_zero, List.set_cons_succ, i64_w, i32_w]
         rfl
        refine one_ (i := 7) (N := some 40) (M.tf [8, 3, 1, 2]) rfl rfl (one_of HT_.out (by kernel_rfl)) (by decide) (fun K hK => ?_)
        refine goes_ Tryd.func12 (by kernel_rfl) rfl #[.agg #[.slice A0_0 l0_0.length c0_0, .slice A0_1 l0_1.length c0_1, .string a0_2, .string a0_3], .string ((rd_T78 l1_1 a2).f1)] (by rfl) rfl rfl (by simp only [List.map_toArray, List.map_cons, List.map_nil]; (rfl)) ?_
        with_reducible refine (pleachref20_Load.calls _ _ l0_0 _ _ l0_1 a0_2 a0_3 ((rd_T78 l1_1 a2).f1) t406 t407 t410 t413 _ ?side1 ?side2 ?side3 ?side4 A29.out).mono ?_
        (case side1 => exact M.cB HR0_0 HB)
        (case side2 => exact HC0_0.out)
        (case side3 => exact M.cB HR0_1 HB)
        (case side4 => exact HC0_1.out)
        rintro e w33 ⟨v408, v411, rfl, ho0, ho1, hb⟩
        refine ⟨_, rfl, ?_⟩
        have HO409 := Aside0.mk (Kd.R_lower ho0 (below_size (M.up HB))); have HO412 := Aside0.mk (Kd.R_lower ho1 (below_size (M.up HB))); replace zal := M.bkB zal hb; replace zap := M.bkB zap hb; replace zav := M.bkB zav hb; replace zbr := M.bkB zbr hb; replace HB := M.upS HB hb
        clear hb
        clear ho0
        clear ho1
        refine hK.out _ _ ⟨(blk_cell zal.out 0).trans rfl, (blk_cell zal.out 1).trans rfl, (blk_cell zal.out 2).trans rfl, (blk_cell zal.out 3).trans rfl, (blk_cell zap.out 0).trans rfl, (blk_cell zap.out 1).trans rfl, (blk_cell zap.out 2).trans rfl, ((HB.out.cell (World.block_lt_of_cell? w _ hw405_0)).trans hw405_0), ((HB.out.cell (World.block_lt_of_cell? w _ hw405_1)).trans hw405_1)⟩ (fun hHeld => ?_)
        clear hK K
        refine norm_ (a' := ?_) ?_ ?_
        rotate_left
        ·show Act.put _ (some 40) _ = _
         simp only [Act.put, List.setIfInBounds_toArray, List.set_cons_zero, List.set_cons_succ, i64_w, i32_w]
         rfl
        refine M.pu 8 32 [9, 2, 1, 2] HT_ ?_
        refine M.pu 9 41 [10, 1, 1, 2] HT_ ?_
        refine M.pu 10 42 [12, 2] HT_ ?_
        exact norm_ (by simp only [putAll, Act.put, List.setIfInBounds_toArray, List.set_cons_zero, List.set_cons_succ]) (hCont (v408, v411, zbq) _ ⟨hHeld, (M.ro HO409), (M.ro HO412), (M.bk zal), (M.bk zap), (M.bk zav), (M.bk zbr), zbs.out, zbt.out, zbu.out, zbv.out, zbw.out, zbx.out, zby.out, zbz.out, (M.up HB)⟩)
      rintro ⟨v408, v411, zbq⟩ w34 ⟨hS_, h0_, h1_, h2_, h3_, h4_, h5_, h6_, h7_, h8_, h9_, h10_, h11_, h12_, h13_, h14_⟩
      have n0_ : Aside0 (Kd.R k78 78 w34 w.heap.size (fun _ => True) v408 t407) := ⟨h0_⟩
      have n1_ : Aside0 (Kd.R (Kd.int .i64) 3 w34 w.heap.size (fun _ => True) v411 t410) := ⟨h1_⟩
      have n2_ : Aside0 (w34.heap[zak]? = some (.cells #[.slice A0_0 l0_0.length c0_0, .slice A0_1 l0_1.length c0_1, .string a0_2, .string a0_3] 31 (0, 0))) := ⟨h2_⟩
      have n3_ : Aside0 (w34.heap[zao]? = some (.cells #[.int .i64 a1_0, .slice (some ad405) l1_1.length c1_1, .slice A1_2 l1_2.length c1_2] 26 (0, 0))) := ⟨h3_⟩
      have n4_ : Aside0 (w34.heap[zau]? = some (.cells #[.int .i64 0, .slice none 0 0, .slice none 0 0] 26 (0, 0))) := ⟨h4_⟩
      have n5_ : Aside0 (w34.heap[zbq]? = some (.cells #[.int .i64 0, .slice none 0 0, .slice none 0 0] 26 (0, 0))) := ⟨h5_⟩
      have n6_ : Aside0 (w.heap.size ≤ zbq) := ⟨h6_⟩
      have n7_ : Aside0 (w.heap.size ≤ zbq) := ⟨h7_⟩
      have n8_ : Aside0 (zak ≠ zbq) := ⟨h8_⟩
      have n9_ : Aside0 (zbq ≠ zak) := ⟨h9_⟩
      have n10_ : Aside0 (zao ≠ zbq) := ⟨h10_⟩
      have n11_ : Aside0 (zbq ≠ zao) := ⟨h11_⟩
      have n12_ : Aside0 (zau ≠ zbq) := ⟨h12_⟩
      have n13_ : Aside0 (zbq ≠ zau) := ⟨h13_⟩
      have n14_ : Aside0 (Below w.heap.size w w34) := ⟨h14_⟩
      clear zal zap zav HB
      clear h0_ h1_ h2_ h3_ h4_ h5_ h6_ h7_ h8_ h9_ h10_ h11_ h12_ h13_ h14_
      have HO409 := n0_
      have HO412 := n1_
      have zal := n2_
      have zap := n3_
      have zav := n4_
      have zbr := n5_
      have zbs := n6_
      have zbt := n7_
      have zbu := n8_
      have zbv := n9_
      have zbw := n10_
      have zbx := n11_
      have zby := n12_
      have zbz := n13_
      have HB := n14_
      clear n0_ n1_ n2_ n3_ n4_ n5_ n6_ n7_ n8_ n9_ n10_ n11_ n12_ n13_ n14_
      have hHeld : w34.cell? ⟨zak, 0, none⟩ = some (.slice A0_0 l0_0.length c0_0) ∧ w34.cell? ⟨zak, 1, none⟩ = some (.slice A0_1 l0_1.length c0_1) ∧ w34.cell? ⟨zak, 2, none⟩ = some (.string a0_2) ∧ w34.cell? ⟨zak, 3, none⟩ = some (.string a0_3) ∧ w34.cell? ⟨zao, 0, none⟩ = some (.int .i64 a1_0) ∧ w34.cell? ⟨zao, 1, none⟩ = some (.slice (some ad405) l1_1.length c1_1) ∧ w34.cell? ⟨zao, 2, none⟩ = some (.slice A1_2 l1_2.length c1_2) ∧ w34.cell? (ad405.add ((a2).toNat * 2)) = some (.string ((rd_T78 l1_1 a2).f0)) ∧ w34.cell? ⟨(ad405.add ((a2).toNat * 2)).block, (ad405.add ((a2).toNat * 2)).off + 1, none⟩ = some (.string ((rd_T78 l1_1 a2).f1)) := hS_
      obtain ⟨Ao36, co36, eo36⟩ := Kd.R_slice HO409.out
      ((subst eo36))
      obtain ⟨Ao38, co38, eo38⟩ := Kd.R_slice HO412.out
      ((subst eo38))
      refine norm_ (a' := ?_) ?_ ?_
      rotate_left
      ·simp only [putAll, Act.put, List.setIfInBounds_toArray, List.set_cons_zero, List.set_cons_succ]
       rfl
      refine one_ (i := 12) (N := none) (M.tf [13, 1]) rfl rfl (one_of HT_.out (by kernel_rfl)) (by decide) (fun K hK => ?_)
      have hs35 : w34.cell? ⟨zbq, 0, none⟩ = some (.int .i64 0) := (blk_cell zbr.out 0).trans rfl
      have hfs35 := blk_frozen zbr.out 0
      have hns35_0 := zbu.out
      have hns35_1 := zbw.out
      have hns35_2 := zby.out
      have hms35_0 := zbv.out
      have hms35_1 := zbx.out
      have hms35_2 := zbz.out
      have hs37 : w34.cell? ⟨zbq, 1, none⟩ = some (.slice none 0 0) := (blk_cell zbr.out 1).trans rfl
      have hfs37 := blk_frozen zbr.out 1
      have hns37_0 := zbu.out
      have hns37_1 := zbw.out
      have hns37_2 := zby.out
      have hms37_0 := zbv.out
      have hms37_1 := zbx.out
      have hms37_2 := zbz.out
      have hs39 : w34.cell? ⟨zbq, 2, none⟩ = some (.slice none 0 0) := (blk_cell zbr.out 2).trans rfl
      have hfs39 := blk_frozen zbr.out 2
      have hns39_0 := zbu.out
      have hns39_1 := zbw.out
      have hns39_2 := zby.out
      have hms39_0 := zbv.out
      have hms39_1 := zbx.out
      have hms39_2 := zbz.out
      refine skip_ (w1 := ?_) (by rfl) rfl ?_ ?_
      rotate_left
      ·go_simp
       rfl
      refine hK.out _ _ ⟨((cell_far (p := ⟨zbq, _, none⟩) zbu.out _).trans (((cell_far (p := ⟨zbq, _, none⟩) zbu.out _).trans (((cell_far (p := ⟨zbq, _, none⟩) zbu.out _).trans (hHeld.1)))))), ((cell_far (p := ⟨zbq, _, none⟩) zbu.out _).trans (((cell_far (p := ⟨zbq, _, none⟩) zbu.out _).trans (((cell_far (p := ⟨zbq, _, none⟩) zbu.out _).trans (hHeld.2.1)))))), ((cell_far (p := ⟨zbq, _, none⟩) zbu.out _).trans (((cell_far (p := ⟨zbq, _, none⟩) zbu.out _).trans (((cell_far (p := ⟨zbq, _, none⟩) zbu.out _).trans (hHeld.2.2.1)))))), ((cell_far (p := ⟨zbq, _, none⟩) zbu.out _).trans (((cell_far (p := ⟨zbq, _, none⟩) zbu.out _).trans (((cell_far (p := ⟨zbq, _, none⟩) zbu.out _).trans (hHeld.2.2.2.1)))))), ((cell_far (p := ⟨zbq, _, none⟩) zbw.out _).trans (((cell_far (p := ⟨zbq, _, none⟩) zbw.out _).trans (((cell_far (p := ⟨zbq, _, none⟩) zbw.out _).trans (hHeld.2.2.2.2.1)))))), ((cell_far (p := ⟨zbq, _, none⟩) zbw.out _).trans (((cell_far (p := ⟨zbq, _, none⟩) zbw.out _).trans (((cell_far (p := ⟨zbq, _, none⟩) zbw.out _).trans (hHeld.2.2.2.2.2.1)))))), ((cell_far (p := ⟨zbq, _, none⟩) zbw.out _).trans (((cell_far (p := ⟨zbq, _, none⟩) zbw.out _).trans (((cell_far (p := ⟨zbq, _, none⟩) zbw.out _).trans (hHeld.2.2.2.2.2.2.1)))))), ((cell_far (p := ⟨zbq, _, none⟩) (by (exact Nat.ne_of_lt (Nat.lt_of_lt_of_le (by have := World.block_lt_of_cell? _ _ hw405_0; (exact this)) zbs.out))) _).trans (((cell_far (p := ⟨zbq, _, none⟩) (by (exact Nat.ne_of_lt (Nat.lt_of_lt_of_le (by have := World.block_lt_of_cell? _ _ hw405_0; (exact this)) zbs.out))) _).trans (((cell_far (p := ⟨zbq, _, none⟩) (by (exact Nat.ne_of_lt (Nat.lt_of_lt_of_le (by have := World.block_lt_of_cell? _ _ hw405_0; (exact this)) zbs.out))) _).trans (hHeld.2.2.2.2.2.2.2.1)))))), ((cell_far (p := ⟨zbq, _, none⟩) (by (exact Nat.ne_of_lt (Nat.lt_of_lt_of_le (by have := World.block_lt_of_cell? _ _ hw405_1; (exact this)) zbs.out))) _).trans (((cell_far (p := ⟨zbq, _, none⟩) (by (exact Nat.ne_of_lt (Nat.lt_of_lt_of_le (by have := World.block_lt_of_cell? _ _ hw405_1; (exact this)) zbs.out))) _).trans (((cell_far (p := ⟨zbq, _, none⟩) (by (exact Nat.ne_of_lt (Nat.lt_of_lt_of_le (by have := World.block_lt_of_cell? _ _ hw405_1; (exact this)) zbs.out))) _).trans (hHeld.2.2.2.2.2.2.2.2))))))⟩ (fun hHeld => ?_)
      clear hK K
      refine M.pu 13 9 [14] HT_ ?_
      refine done_ (done_of HT_.out (by kernel_rfl)) ?_
      go_upto_region 4 with (fail)
      go_cut [58] (fun v58 wc => ∃ (kq : Nat) (x58_29 : Bool), v58 = .bool x58_29 ∧ Aside0 (pleachref20_Child.j1 kq a2 x58_29 a1_0 l1_1 l1_2 t406 t407 t410 = some (r1, r2, r3, r4)) ∧ Aside0 (kq ≤ kj3) ∧ Aside0 (Kd.R k78 78 wc w.heap.size (fun _ => True) (.slice Ao36 t407.length co36) t407) ∧ Aside0 (Kd.R (Kd.int .i64) 3 wc w.heap.size (fun _ => True) (.slice Ao38 t410.length co38) t410) ∧ Aside0 (wc.heap[zak]? = some (.cells #[(.slice A0_0 l0_0.length c0_0), (.slice A0_1 l0_1.length c0_1), .string a0_2, .string a0_3] 31 (0, 0))) ∧ Aside0 (wc.heap[zao]? = some (.cells #[.int .i64 a1_0, (.slice (some ad405) l1_1.length c1_1), (.slice A1_2 l1_2.length c1_2)] 26 (0, 0))) ∧ Aside0 (wc.heap[zau]? = some (.cells #[.int .i64 0, (.slice none 0 0), (.slice none 0 0)] 26 (0, 0))) ∧ Aside0 (wc.heap[zbq]? = some (.cells #[.int .i64 t406, (.slice Ao36 t407.length co36), (.slice Ao38 t410.length co38)] 26 (0, 0))) ∧ Aside0 (Below w.heap.size w wc))
      case first =>
       have H := HC30.out
       clear HC30
       by_cases c40 : t413 = true
       ·subst c40
        have H1 := H; rw [if_pos rfl] at H1
        clear H
        have H := H1
        clear H1
        by_cases c41 : t406 = (wrap64 (a1_0 - 1))
        ·rw [if_pos c41] at H
         have c41b0 : (t406 == (wrap64 (a1_0 - 1))) = true := beq_iff_eq.mpr c41
         have c41b1 : (t406 != (wrap64 (a1_0 - 1))) = false := bne_eq_false_iff_eq.mpr c41
         clear c41
         ((skip))
         have H' := Aside0.mk H
         clear H
         have zbA := zbv.out
         have zbB := zbu.out
         have zbC := zbx.out
         have zbD := zbw.out
         have zbE := zbz.out
         have zbF := zby.out
         obtain ⟨zbG, zbH, zbI⟩ := M.bc3 (w := w34) (a := .int .i64 0) (b := .slice none 0 0) (c := .slice none 0 0) zbr.out
         obtain ⟨zbJ, zbK, zbL⟩ := M.bf3 zbr
         have zbM := zat.out
         have zbN := zas.out
         have zbO := zaA.out
         have zbP := zaB.out
         obtain ⟨zbQ, zbR, zbS⟩ := M.bc3 (w := w34) (a := .int .i64 a1_0) (b := .slice (some ad405) l1_1.length c1_1) (c := .slice A1_2 l1_2.length c1_2) zap.out
         obtain ⟨zbT, zbU, zbV⟩ := M.bf3 zap
         go_wp2
         go_meet
         case rel => exact ⟨_, (((t407.length : Int) == 0)), M.eqv, H', ⟨by have := HJ3.out; (omega)⟩, ⟨by (with_reducible repeat (first | apply Kd.R_alloc | apply Kd.R_drewN | apply Kd.R_drew)); exact Kd.R_mono (Kd.R_far (p := ⟨zbq, 2, none⟩) (Kd.R_far (p := ⟨zbq, 1, none⟩) (Kd.R_far (p := ⟨zbq, 0, none⟩) (Kd.R_types HO409.out zbr.out (by decide)) (fun _ hk => hk.2) (.int .i64 t406)) (fun _ hk => hk.2) (.slice Ao36 t407.length co36)) (fun _ hk => hk.2) (.slice Ao38 t410.length co38)) (fun _ hk => trivial)⟩, ⟨by (with_reducible repeat (first | apply Kd.R_alloc | apply Kd.R_drewN | apply Kd.R_drew)); exact Kd.R_mono (Kd.R_far (p := ⟨zbq, 2, none⟩) (Kd.R_far (p := ⟨zbq, 1, none⟩) (Kd.R_far (p := ⟨zbq, 0, none⟩) (Kd.R_types HO412.out zbr.out (by decide)) (fun _ hk => hk.2) (.int .i64 t406)) (fun _ hk => hk.2) (.slice Ao36 t407.length co36)) (fun _ hk => hk.2) (.slice Ao38 t410.length co38)) (fun _ hk => trivial)⟩, ⟨by refine M.fr ?_ zbu; refine M.fr ?_ zbu; refine M.fr ?_ zbu; exact M.bk zal⟩, ⟨by refine M.fr ?_ zbw; refine M.fr ?_ zbw; refine M.fr ?_ zbw; exact M.bk zap⟩, ⟨by refine M.fr ?_ zby; refine M.fr ?_ zby; refine M.fr ?_ zby; exact M.bk zav⟩, ⟨by refine M.fp (cs := #[.int .i64 t406, .slice Ao36 t407.length co36, .slice none 0 0]) ?_ 2; refine M.fp (cs := #[.int .i64 t406, .slice none 0 0, .slice none 0 0]) ?_ 1; refine M.fp (cs := #[.int .i64 0, .slice none 0 0, .slice none 0 0]) ?_ 0; exact M.bk zbr⟩, ⟨M.up HB⟩⟩
        ·rw [if_neg c41] at H
         have c41b0 : (t406 == (wrap64 (a1_0 - 1))) = false := beq_eq_false_iff_ne.mpr c41
         have c41b1 : (t406 != (wrap64 (a1_0 - 1))) = true := bne_iff_ne.mpr c41
         ((skip))
         have H' := Aside0.mk H
         clear H
         have zbW := zbv.out
         have zbX := zbu.out
         have zbY := zbx.out
         have zbZ := zbw.out
         have zb0 := zbz.out
         have zb1 := zby.out
         obtain ⟨zb2, zb3, zb4⟩ := M.bc3 (w := w34) (a := .int .i64 0) (b := .slice none 0 0) (c := .slice none 0 0) zbr.out
         obtain ⟨zb5, zb6, zb7⟩ := M.bf3 zbr
         have zb8 := zat.out
         have zb9 := zas.out
         have zca := zaA.out
         have zcb := zaB.out
         obtain ⟨zcc, zcd, zce⟩ := M.bc3 (w := w34) (a := .int .i64 a1_0) (b := .slice (some ad405) l1_1.length c1_1) (c := .slice A1_2 l1_2.length c1_2) zap.out
         obtain ⟨zcf, zcg, zch⟩ := M.bf3 zap
         go_wp2
         go_meet
         case rel => exact ⟨_, (true), M.eqv, H', ⟨by have := HJ3.out; (omega)⟩, ⟨by (with_reducible repeat (first | apply Kd.R_alloc | apply Kd.R_drewN | apply Kd.R_drew)); exact Kd.R_mono (Kd.R_far (p := ⟨zbq, 2, none⟩) (Kd.R_far (p := ⟨zbq, 1, none⟩) (Kd.R_far (p := ⟨zbq, 0, none⟩) (Kd.R_types HO409.out zbr.out (by decide)) (fun _ hk => hk.2) (.int .i64 t406)) (fun _ hk => hk.2) (.slice Ao36 t407.length co36)) (fun _ hk => hk.2) (.slice Ao38 t410.length co38)) (fun _ hk => trivial)⟩, ⟨by (with_reducible repeat (first | apply Kd.R_alloc | apply Kd.R_drewN | apply Kd.R_drew)); exact Kd.R_mono (Kd.R_far (p := ⟨zbq, 2, none⟩) (Kd.R_far (p := ⟨zbq, 1, none⟩) (Kd.R_far (p := ⟨zbq, 0, none⟩) (Kd.R_types HO412.out zbr.out (by decide)) (fun _ hk => hk.2) (.int .i64 t406)) (fun _ hk => hk.2) (.slice Ao36 t407.length co36)) (fun _ hk => hk.2) (.slice Ao38 t410.length co38)) (fun _ hk => trivial)⟩, ⟨by refine M.fr ?_ zbu; refine M.fr ?_ zbu; refine M.fr ?_ zbu; exact M.bk zal⟩, ⟨by refine M.fr ?_ zbw; refine M.fr ?_ zbw; refine M.fr ?_ zbw; exact M.bk zap⟩, ⟨by refine M.fr ?_ zby; refine M.fr ?_ zby; refine M.fr ?_ zby; exact M.bk zav⟩, ⟨by refine M.fp (cs := #[.int .i64 t406, .slice Ao36 t407.length co36, .slice none 0 0]) ?_ 2; refine M.fp (cs := #[.int .i64 t406, .slice none 0 0, .slice none 0 0]) ?_ 1; refine M.fp (cs := #[.int .i64 0, .slice none 0 0, .slice none 0 0]) ?_ 0; exact M.bk zbr⟩, ⟨M.up HB⟩⟩
       ·replace c40 := Bool.eq_false_iff.mpr c40
        subst c40
        have H1 : (pleachref20_Child.j1 kj3 a2 true a1_0 l1_1 l1_2 t406 t407 t410) = some (r1, r2, r3, r4) := by rw [if_neg (show ¬ (false = true) by decide)] at H; exact H
        clear H
        have H := H1
        clear H1
        have H' := Aside0.mk H
        clear H
        go_wp2
        go_meet
        case rel => exact ⟨_, (true), M.eqv, H', ⟨by have := HJ3.out; (omega)⟩, ⟨by (with_reducible repeat (first | apply Kd.R_alloc | apply Kd.R_drewN | apply Kd.R_drew)); exact Kd.R_mono (Kd.R_far (p := ⟨zbq, 2, none⟩) (Kd.R_far (p := ⟨zbq, 1, none⟩) (Kd.R_far (p := ⟨zbq, 0, none⟩) (Kd.R_types HO409.out zbr.out (by decide)) (fun _ hk => hk.2) (.int .i64 t406)) (fun _ hk => hk.2) (.slice Ao36 t407.length co36)) (fun _ hk => hk.2) (.slice Ao38 t410.length co38)) (fun _ hk => trivial)⟩, ⟨by (with_reducible repeat (first | apply Kd.R_alloc | apply Kd.R_drewN | apply Kd.R_drew)); exact Kd.R_mono (Kd.R_far (p := ⟨zbq, 2, none⟩) (Kd.R_far (p := ⟨zbq, 1, none⟩) (Kd.R_far (p := ⟨zbq, 0, none⟩) (Kd.R_types HO412.out zbr.out (by decide)) (fun _ hk => hk.2) (.int .i64 t406)) (fun _ hk => hk.2) (.slice Ao36 t407.length co36)) (fun _ hk => hk.2) (.slice Ao38 t410.length co38)) (fun _ hk => trivial)⟩, ⟨by refine M.fr ?_ zbu; refine M.fr ?_ zbu; refine M.fr ?_ zbu; exact M.bk zal⟩, ⟨by refine M.fr ?_ zbw; refine M.fr ?_ zbw; refine M.fr ?_ zbw; exact M.bk zap⟩, ⟨by refine M.fr ?_ zby; refine M.fr ?_ zby; refine M.fr ?_ zby; exact M.bk zav⟩, ⟨by refine M.fp (cs := #[.int .i64 t406, .slice Ao36 t407.length co36, .slice none 0 0]) ?_ 2; refine M.fp (cs := #[.int .i64 t406, .slice none 0 0, .slice none 0 0]) ?_ 1; refine M.fp (cs := #[.int .i64 0, .slice none 0 0, .slice none 0 0]) ?_ 0; exact M.bk zbr⟩, ⟨M.up HB⟩⟩
      case rest =>
       clear HC30
       clear c27b0 c28b0 hx405_0 hx405_1 p405 q405
       obtain ⟨kq, x58_29, rfl, HA, HJ29, zci, zcj, zal, zap, zav, zbr, HB⟩ := hcut
       cases kq with
       | zero => exact absurd HA.out (by simp [pleachref20_Child.j1])
       | succ kj29 =>
        have H := HA.out
        clear HA
        simp only [pleachref20_Child.j1] at H
        by_cases c56 : x58_29 = true
        ·subst c56
         have H1 := H; rw [if_pos rfl] at H1
         clear H
         have H := H1
         clear H1
         simp only [Option.some.injEq, Prod.mk.injEq] at H
         obtain ⟨rfl, rfl, rfl, rfl⟩ := H
         have zck := zaz.out
         have zcl := zay.out
         have zcm := zaB.out
         have zcn := zaA.out
         have zco := zby.out
         have zcp := zbz.out
         obtain ⟨zcq, zcr, zcs⟩ := M.bc3 (w := wc) (a := .int .i64 0) (b := .slice none 0 0) (c := .slice none 0 0) zav.out
         obtain ⟨zct, zcu, zcv⟩ := M.bf3 zav
         go_wp2
         refine bodyPost_ret (results_ct rfl _ _ zau 26 #[.int .i64 0, .slice none 0 0, .slice none 0 0] (0, 0) _ rfl (by refine M.fp (cs := #[.int .i64 0, .slice none 0 0, .slice none 0 0]) ?_ 2; refine M.fp (cs := #[.int .i64 0, .slice none 0 0, .slice none 0 0]) ?_ 1; refine M.fp (cs := #[.int .i64 0, .slice none 0 0, .slice none 0 0]) ?_ 0; exact M.bk zav) Tryd.underlying26 rfl (by kernel_rfl)) rfl ?_
         exact ⟨_, _, M.eqe, M.nl, M.nl, M.up HB⟩
        ·replace c56 := Bool.eq_false_iff.mpr c56
         subst c56
         have H1 : (if 0 ≤ (wrap64 ((t407.length : Int) - 1)) then (if (wrap64 ((t407.length : Int) - 1)) < (t407.length : Int) then (if 0 ≤ a2 then (if a2 < (l1_1.length : Int) then (if ((rd_T78 t407 (wrap64 ((t407.length : Int) - 1))).f0).toList = ((rd_T78 l1_1 a2).f0).toList then ((pleachref19_Total.f kj29 t406 t407 t410).bind fun t417 => (if a2 < (l1_2.length : Int) then (if t417 = (rd l1_2 a2) then (if a2 > 0 then (if 0 < (t407.length : Int) then (if 0 ≤ (wrap64 (a2 - 1)) then (if (wrap64 (a2 - 1)) < (l1_1.length : Int) then (pleachref20_Child.j2 kj29 (!(Op.bytesLess (((rd_T78 l1_1 (wrap64 (a2 - 1))).f0).toList) (((rd_T78 t407 0).f0).toList))) t406 t407 t410) else (none)) else (none)) else (none)) else (pleachref20_Child.j2 kj29 false t406 t407 t410)) else (pleachref20_Child.j2 kj29 true t406 t407 t410)) else (none))) else (pleachref20_Child.j2 kj29 true t406 t407 t410)) else (none)) else (none)) else (none)) else (none)) = some (r1, r2, r3, r4) := by rw [if_neg (show ¬ (false = true) by decide)] at H; exact H
         clear H
         have H := H1
         clear H1
         have HC61 := Aside0.mk H
         clear H
         go_upto_region 6 with (fail)
         go_cut [104] (fun v104 wc => ∃ (kq : Nat) (x104_60 : Bool), v104 = .bool x104_60 ∧ Aside0 (pleachref20_Child.j2 kq x104_60 t406 t407 t410 = some (r1, r2, r3, r4)) ∧ Aside0 (kq ≤ kj29) ∧ Aside0 (Kd.R k78 78 wc w.heap.size (fun _ => True) (.slice Ao36 t407.length co36) t407) ∧ Aside0 (Kd.R (Kd.int .i64) 3 wc w.heap.size (fun _ => True) (.slice Ao38 t410.length co38) t410) ∧ Aside0 (wc.heap[zak]? = some (.cells #[(.slice A0_0 l0_0.length c0_0), (.slice A0_1 l0_1.length c0_1), .string a0_2, .string a0_3] 31 (0, 0))) ∧ Aside0 (wc.heap[zao]? = some (.cells #[.int .i64 a1_0, (.slice (some ad405) l1_1.length c1_1), (.slice A1_2 l1_2.length c1_2)] 26 (0, 0))) ∧ Aside0 (wc.heap[zau]? = some (.cells #[.int .i64 0, (.slice none 0 0), (.slice none 0 0)] 26 (0, 0))) ∧ Aside0 (wc.heap[zbq]? = some (.cells #[.int .i64 t406, (.slice Ao36 t407.length co36), (.slice Ao38 t410.length co38)] 26 (0, 0))) ∧ Aside0 (Below w.heap.size w wc))
         case first =>
          have H := HC61.out
          clear HC61
          obtain ⟨ji62, hji62⟩ : ∃ j_ : Int, (wrap64 ((t407.length : Int) - 1)) = j_ := ⟨_, rfl⟩
          rw [hji62] at H
          have hji62w : (IntKind.i64.wrap ((t407.length : Int) - 1)) = ji62 := (i64_w _).trans hji62
          by_cases c63 : 0 ≤ (ji62)
          ·rw [if_pos c63] at H
           have c63b0 := decide_eq_true c63
           clear c63
           ((skip))
           by_cases c64 : (ji62) < (t407.length : Int)
           ·rw [if_pos c64] at H
            have c64b0 := decide_eq_true c64
            clear c64
            by_cases c65 : 0 ≤ a2
            ·rw [if_pos c65] at H
             have c65b0 := decide_eq_true c65
             clear c65
             by_cases c66 : a2 < (l1_1.length : Int)
             ·rw [if_pos c66] at H
              have c66b0 := decide_eq_true c66
              clear c66
              by_cases c67 : ((rd_T78 t407 (ji62)).f0).toList = ((rd_T78 l1_1 a2).f0).toList
              ·rw [if_pos c67] at H
               have c67b0 : (((rd_T78 t407 (ji62)).f0).toList == ((rd_T78 l1_1 a2).f0).toList) = true := beq_iff_eq.mpr c67
               have c67b1 : (((rd_T78 t407 (ji62)).f0).toList != ((rd_T78 l1_1 a2).f0).toList) = false := bne_eq_false_iff_eq.mpr c67
               clear c67
               replace H := Option.bind_eq_some_iff.mp H
               obtain ⟨t417, A680, H⟩ := H
               try simp only at H
               have A68 := Aside0.mk A680
               clear A680
               by_cases c69 : a2 < (l1_2.length : Int)
               ·rw [if_pos c69] at H
                have c69b0 := decide_eq_true c69
                clear c69
                by_cases c70 : t417 = (rd l1_2 a2)
                ·rw [if_pos c70] at H
                 have c70b0 : (t417 == (rd l1_2 a2)) = true := beq_iff_eq.mpr c70
                 have c70b1 : (t417 != (rd l1_2 a2)) = false := bne_eq_false_iff_eq.mpr c70
                 clear c70
                 by_cases c71 : a2 > 0
                 ·rw [if_pos c71] at H
                  have c71b0 := decide_eq_true c71
                  clear c71
                  by_cases c72 : 0 < (t407.length : Int)
                  ·rw [if_pos c72] at H
                   have c72b0 := decide_eq_true c72
                   have c72b1 : decide (0 < t407.length) = true := decide_eq_true (by omega)
                   clear c72
                   obtain ⟨ji73, hji73⟩ : ∃ j_ : Int, (wrap64 (a2 - 1)) = j_ := ⟨_, rfl⟩
                   rw [hji73] at H
                   have hji73w : (IntKind.i64.wrap (a2 - 1)) = ji73 := (i64_w _).trans hji73
                   by_cases c74 : 0 ≤ (ji73)
                   ·rw [if_pos c74] at H
                    have c74b0 := decide_eq_true c74
                    clear c74
                    by_cases c75 : (ji73) < (l1_1.length : Int)
                    ·rw [if_pos c75] at H
                     have c75b0 := decide_eq_true c75
                     clear c75
                     have H' := Aside0.mk H
                     clear H
                     try go_wp2
                     replace zci := Aside0.mk (Kd.R_drew zci.out); replace zcj := Aside0.mk (Kd.R_drew zcj.out); replace zal := Aside0.mk (blk_drew zal.out); replace zap := Aside0.mk (blk_drew zap.out); replace zav := Aside0.mk (blk_drew zav.out); replace zbr := Aside0.mk (blk_drew zbr.out); replace HB := Aside0.mk (below_drew1 HB.out)
                     have p415 : 0 ≤ ((ji62) : Int) := M.dt
                     have q415 : (ji62) < (t407.length : Int) := M.dt
                     obtain ⟨ad415, e415, hx415_0, hx415_1⟩ := at_T78 (Kd.R_reads' zci.out).2.2 (ji62) p415 q415
                     cases e415
                     replace p415 := eq_true p415
                     replace q415 := eq_true q415
                     have p416 : 0 ≤ (a2 : Int) := M.dt
                     have q416 : a2 < (l1_1.length : Int) := M.dt
                     obtain ⟨ad416, e416, hx416_0, hx416_1⟩ := at_T78 HR1_1.out a2 p416 q416
                     have hw416_1 := hx416_1
                     have hw416_0 := hx416_0
                     obtain rfl : ad405 = ad416 := (by injection e416)
                     replace hx416_0 := M.hc HB hx416_0
                     replace hx416_1 := M.hc HB hx416_1
                     replace p416 := eq_true p416
                     replace q416 := eq_true q416
                     have p418 : 0 ≤ (a2 : Int) := M.dt
                     have q418 : a2 < (l1_2.length : Int) := M.dt
                     obtain ⟨ad418, e418, hx418_0⟩ := Kd.at_int HR1_2.out a2 p418 q418
                     have hw418_0 := hx418_0
                     cases e418
                     replace hx418_0 := M.hc HB hx418_0
                     replace p418 := eq_true p418
                     replace q418 := eq_true q418
                     have p419 : 0 ≤ (0 : Int) := (by omega)
                     have q419 : 0 < (t407.length : Int) := M.dt
                     obtain ⟨ad419, e419, hx419_0, hx419_1⟩ := at_T78 (Kd.R_reads' zci.out).2.2 0 p419 q419
                     obtain rfl : ad415 = ad419 := (by injection e419)
                     have qi419 : (0 < t407.length) = True := eq_true (by omega)
                     (rw [show ((0 : Int)).toNat = 0 from rfl] at hx419_0)
                     rw [show 0 * 2 = 0 from rfl] at hx419_0
                     rw [Addr.add_zero'] at hx419_0
                     (rw [show ((0 : Int)).toNat = 0 from rfl] at hx419_1)
                     rw [show 0 * 2 = 0 from rfl] at hx419_1
                     rw [Addr.add_zero'] at hx419_1
                     replace p419 := eq_true p419
                     replace q419 := eq_true q419
                     have p420 : 0 ≤ ((ji73) : Int) := M.dt
                     have q420 : (ji73) < (l1_1.length : Int) := M.dt
                     obtain ⟨ad420, e420, hx420_0, hx420_1⟩ := at_T78 HR1_1.out (ji73) p420 q420
                     have hw420_1 := hx420_1
                     have hw420_0 := hx420_0
                     obtain rfl : ad405 = ad420 := (by injection e420)
                     replace hx420_0 := M.hc HB hx420_0
                     replace hx420_1 := M.hc HB hx420_1
                     replace p420 := eq_true p420
                     replace q420 := eq_true q420
                     refine start_ (n := 45) (S := fun w' => w'.cell? ⟨zbq, 0, none⟩ = some (.int .i64 t406) ∧ w'.cell? ⟨zbq, 1, none⟩ = some (.slice (some ad415) t407.length co36) ∧ w'.cell? ⟨zbq, 2, none⟩ = some (.slice Ao38 t410.length co38) ∧ w'.cell? ⟨zao, 0, none⟩ = some (.int .i64 a1_0) ∧ w'.cell? ⟨zao, 1, none⟩ = some (.slice (some ad405) l1_1.length c1_1) ∧ w'.cell? ⟨zao, 2, none⟩ = some (.slice (some ad418) l1_2.length c1_2) ∧ w'.cell? (ad415.add (((ji62)).toNat * 2)) = some (.string ((rd_T78 t407 (ji62)).f0)) ∧ w'.cell? ⟨(ad415.add (((ji62)).toNat * 2)).block, (ad415.add (((ji62)).toNat * 2)).off + 1, none⟩ = some (.string ((rd_T78 t407 (ji62)).f1)) ∧ w'.cell? (ad405.add ((a2).toNat * 2)) = some (.string ((rd_T78 l1_1 a2).f0)) ∧ w'.cell? ⟨(ad405.add ((a2).toNat * 2)).block, (ad405.add ((a2).toNat * 2)).off + 1, none⟩ = some (.string ((rd_T78 l1_1 a2).f1)) ∧ w'.cell? (ad418.add (a2).toNat) = some (.int .i64 (rd l1_2 a2)) ∧ w'.cell? ad415 = some (.string ((rd_T78 t407 0).f0)) ∧ w'.cell? ⟨ad415.block, ad415.off + 1, none⟩ = some (.string ((rd_T78 t407 0).f1)) ∧ w'.cell? (ad405.add (((ji73)).toNat * 2)) = some (.string ((rd_T78 l1_1 (ji73)).f0)) ∧ w'.cell? ⟨(ad405.add (((ji73)).toNat * 2)).block, (ad405.add (((ji73)).toNat * 2)).off + 1, none⟩ = some (.string ((rd_T78 l1_1 (ji73)).f1))) (ds := []) (M.tf [0, 45]) (by kernel_rfl) rfl rfl ⟨(blk_cell zbr.out 0).trans rfl, (blk_cell zbr.out 1).trans rfl, (blk_cell zbr.out 2).trans rfl, (blk_cell zap.out 0).trans rfl, (blk_cell zap.out 1).trans rfl, (blk_cell zap.out 2).trans rfl, hx415_0, hx415_1, ((HB.out.cell (World.block_lt_of_cell? w _ hw416_0)).trans hw416_0), ((HB.out.cell (World.block_lt_of_cell? w _ hw416_1)).trans hw416_1), ((HB.out.cell (World.block_lt_of_cell? w _ hw418_0)).trans hw418_0), hx419_0, hx419_1, ((HB.out.cell (World.block_lt_of_cell? w _ hw420_0)).trans hw420_0), ((HB.out.cell (World.block_lt_of_cell? w _ hw420_1)).trans hw420_1)⟩ (fun hHeld => ?_); refine with_tabW pleachref20_Child.tab6 pleachref20_Child.bits6 (fun HT_ HW_ => ?_)
                     generalize wc.drew = w76 at zci zcj zal zap zav zbr HB hx415_0 hx415_1 hx416_0 hx416_1 hx418_0 hx419_0 hx419_1 hx420_0 hx420_1 hHeld ⊢
                     refine M.pu 0 60 [1, 44] HT_ ?_
                     refine M.pu 2 62 [1, 1, 1, 42] HT_ ?_
                     refine M.pu 9 69 [1, 1, 1, 6, 1, 35] HT_ ?_
                     refine M.pu 11 71 [1, 1, 1, 6, 1, 1, 1, 33] HT_ ?_
                     refine M.tk 1 61 [3, 6, 1, 1, 1, 33] HT_ HW_ hHeld ?_
                     refine M.tk 3 63 [4, 5, 1, 1, 1, 33] HT_ HW_ hHeld ?_
                     refine M.pu 4 64 [5, 4, 1, 1, 1, 33] HT_ ?_
                     refine M.pu 5 65 [6, 3, 1, 1, 1, 33] HT_ ?_
                     refine M.pu 6 66 [7, 2, 1, 1, 1, 33] HT_ ?_
                     refine M.pu 7 67 [8, 1, 1, 1, 1, 33] HT_ ?_
                     refine M.tk 8 68 [10, 1, 1, 33] HT_ HW_ hHeld ?_
                     refine M.tk 10 70 [12, 33] HT_ HW_ hHeld ?_
                     refine M.pu 12 72 [13, 32] HT_ ?_
                     refine M.pu 13 73 [14, 31] HT_ ?_
                     refine M.tk 14 74 [15, 30] HT_ HW_ hHeld ?_
                     refine M.pu 15 75 [16, 29] HT_ ?_
                     refine M.pu 16 76 [17, 28] HT_ ?_
                     refine M.pu 19 79 [17, 2, 1, 25] HT_ ?_
                     refine M.pu 21 81 [17, 2, 1, 1, 1, 23] HT_ ?_
                     refine M.tk 17 77 [18, 1, 1, 1, 1, 23] HT_ HW_ hHeld ?_
                     refine M.tk 20 80 [18, 1, 3, 23] HT_ HW_ hHeld ?_
                     refine M.pu 22 82 [18, 1, 4, 22] HT_ ?_
                     refine M.tk 23 83 [18, 1, 5, 21] HT_ HW_ hHeld ?_
                     refine one_ (i := 18) (N := some 78) (M.tf [24, 21]) rfl rfl (one_of HT_.out (by kernel_rfl)) (by decide) (fun K hK => ?_)
                     refine goes_ Tryd.func35 (by kernel_rfl) rfl #[.agg #[.int .i64 t406, .slice (some ad415) t407.length co36, .slice Ao38 t410.length co38]] (by rfl) rfl rfl (by simp only [List.map_toArray, List.map_cons, List.map_nil]; (rfl)) ?_
                     with_reducible refine (pleachref19_Total.calls kj29 t406 _ _ t407 _ _ t410 t417 _ ?side1 ?side2 ?side3 ?side4 A68.out).mono ?_
                     (case side1 => repeat ((exact (Kd.R_reads' zci.out).2.2)))
                     (case side2 => exact (Kd.R_reads' zci.out).2.1)
                     (case side3 => repeat ((exact (Kd.R_reads' zcj.out).2.2)))
                     (case side4 => exact (Kd.R_reads' zcj.out).2.1)
                     rintro e w77 ⟨rfl, hb⟩
                     have HS6_ := (hb.cell (World.block_lt_of_cell? _ _ (hHeld.2.2.2.2.2.2.1))).trans (hHeld.2.2.2.2.2.2.1)
                     have HS7_ := (hb.cell (World.block_lt_of_cell? _ _ (hHeld.2.2.2.2.2.2.2.1))).trans (hHeld.2.2.2.2.2.2.2.1)
                     have HS11_ := (hb.cell (World.block_lt_of_cell? _ _ (hHeld.2.2.2.2.2.2.2.2.2.2.2.1))).trans (hHeld.2.2.2.2.2.2.2.2.2.2.2.1)
                     have HS12_ := (hb.cell (World.block_lt_of_cell? _ _ (hHeld.2.2.2.2.2.2.2.2.2.2.2.2.1))).trans (hHeld.2.2.2.2.2.2.2.2.2.2.2.2.1)
                     refine ⟨_, rfl, ?_⟩
                     replace zci := M.roB zci hb; replace zcj := M.roB zcj hb; replace zal := M.bkB zal hb; replace zap := M.bkB zap hb; replace zav := M.bkB zav hb; replace zbr := M.bkB zbr hb; replace HB := M.upS HB hb
                     clear hb
                     refine hK.out _ _ ⟨(blk_cell zbr.out 0).trans rfl, (blk_cell zbr.out 1).trans rfl, (blk_cell zbr.out 2).trans rfl, (blk_cell zap.out 0).trans rfl, (blk_cell zap.out 1).trans rfl, (blk_cell zap.out 2).trans rfl, HS6_, HS7_, ((HB.out.cell (World.block_lt_of_cell? w _ hw416_0)).trans hw416_0), ((HB.out.cell (World.block_lt_of_cell? w _ hw416_1)).trans hw416_1), ((HB.out.cell (World.block_lt_of_cell? w _ hw418_0)).trans hw418_0), HS11_, HS12_, ((HB.out.cell (World.block_lt_of_cell? w _ hw420_0)).trans hw420_0), ((HB.out.cell (World.block_lt_of_cell? w _ hw420_1)).trans hw420_1)⟩ (fun hHeld => ?_)
                     clear hK K
                     refine norm_ (a' := ?_) ?_ ?_
                     rotate_left
                     ·show Act.put _ (some 78) _ = _
                      simp only [Act.put, List.setIfInBounds_toArray, List.set_cons_zero, List.set_cons_succ, i64_w, i32_w]
                      rfl
                     refine M.pu 24 84 [25, 20] HT_ ?_
                     refine M.pu 25 85 [26, 19] HT_ ?_
                     refine M.pu 26 86 [27, 18] HT_ ?_
                     refine M.pu 27 87 [28, 17] HT_ ?_
                     refine M.pu 28 88 [29, 16] HT_ ?_
                     refine M.pu 29 89 [30, 15] HT_ ?_
                     refine M.pu 30 90 [31, 14] HT_ ?_
                     refine M.pu 35 95 [31, 4, 1, 9] HT_ ?_
                     refine M.pu 37 97 [31, 4, 1, 1, 1, 7] HT_ ?_
                     refine M.pu 38 98 [31, 4, 1, 1, 2, 6] HT_ ?_
                     refine M.tk 31 91 [32, 3, 1, 1, 2, 6] HT_ HW_ hHeld ?_
                     refine M.pu 32 92 [33, 2, 1, 1, 2, 6] HT_ ?_
                     refine M.pu 33 93 [34, 1, 1, 1, 2, 6] HT_ ?_
                     refine M.tk 34 94 [36, 1, 2, 6] HT_ HW_ hHeld ?_
                     refine M.tk 36 96 [39, 6] HT_ HW_ hHeld ?_
                     refine M.pu 39 99 [40, 5] HT_ ?_
                     refine M.pu 40 100 [41, 4] HT_ ?_
                     refine M.tk 41 101 [42, 3] HT_ HW_ hHeld ?_
                     refine M.pu 42 102 [43, 2] HT_ ?_
                     refine M.pu 43 103 [44, 1] HT_ ?_
                     refine M.pu 44 104 [45] HT_ ?_
                     refine done_ (done_of HT_.out (by kernel_rfl)) ?_
                     try go_wp2
                     go_meet
                     case rel => exact ⟨_, (!(Op.bytesLess (((rd_T78 l1_1 (ji73)).f0).toList) (((rd_T78 t407 0).f0).toList))), (by (rfl)), H', ⟨by have := HJ3.out; have := HJ29.out; (omega)⟩, ⟨by (with_reducible repeat (first | apply Kd.R_alloc | apply Kd.R_drewN | apply Kd.R_drew)); exact zci.out⟩, ⟨by (with_reducible repeat (first | apply Kd.R_alloc | apply Kd.R_drewN | apply Kd.R_drew)); exact zcj.out⟩, ⟨M.bk zal⟩, ⟨M.bk zap⟩, ⟨M.bk zav⟩, ⟨M.bk zbr⟩, ⟨M.up HB⟩⟩
                    ·exact M.nf c75 H
                   ·exact M.nf c74 H
                  ·exact M.nf c72 H
                 ·rw [if_neg c71] at H
                  have c71b0 := decide_eq_false c71
                  clear c71
                  have H' := Aside0.mk H
                  clear H
                  try go_wp2
                  replace zci := Aside0.mk (Kd.R_drew zci.out); replace zcj := Aside0.mk (Kd.R_drew zcj.out); replace zal := Aside0.mk (blk_drew zal.out); replace zap := Aside0.mk (blk_drew zap.out); replace zav := Aside0.mk (blk_drew zav.out); replace zbr := Aside0.mk (blk_drew zbr.out); replace HB := Aside0.mk (below_drew1 HB.out)
                  have p415 : 0 ≤ ((ji62) : Int) := M.dt
                  have q415 : (ji62) < (t407.length : Int) := M.dt
                  obtain ⟨ad415, e415, hx415_0, hx415_1⟩ := at_T78 (Kd.R_reads' zci.out).2.2 (ji62) p415 q415
                  cases e415
                  replace p415 := eq_true p415
                  replace q415 := eq_true q415
                  have p416 : 0 ≤ (a2 : Int) := M.dt
                  have q416 : a2 < (l1_1.length : Int) := M.dt
                  obtain ⟨ad416, e416, hx416_0, hx416_1⟩ := at_T78 HR1_1.out a2 p416 q416
                  have hw416_1 := hx416_1
                  have hw416_0 := hx416_0
                  obtain rfl : ad405 = ad416 := (by injection e416)
                  replace hx416_0 := M.hc HB hx416_0
                  replace hx416_1 := M.hc HB hx416_1
                  replace p416 := eq_true p416
                  replace q416 := eq_true q416
                  have p418 : 0 ≤ (a2 : Int) := M.dt
                  have q418 : a2 < (l1_2.length : Int) := M.dt
                  obtain ⟨ad418, e418, hx418_0⟩ := Kd.at_int HR1_2.out a2 p418 q418
                  have hw418_0 := hx418_0
                  cases e418
                  replace hx418_0 := M.hc HB hx418_0
                  replace p418 := eq_true p418
                  replace q418 := eq_true q418
                  refine start_ (n := 45) (S := fun w' => w'.cell? ⟨zbq, 0, none⟩ = some (.int .i64 t406) ∧ w'.cell? ⟨zbq, 1, none⟩ = some (.slice (some ad415) t407.length co36) ∧ w'.cell? ⟨zbq, 2, none⟩ = some (.slice Ao38 t410.length co38) ∧ w'.cell? ⟨zao, 0, none⟩ = some (.int .i64 a1_0) ∧ w'.cell? ⟨zao, 1, none⟩ = some (.slice (some ad405) l1_1.length c1_1) ∧ w'.cell? ⟨zao, 2, none⟩ = some (.slice (some ad418) l1_2.length c1_2) ∧ w'.cell? (ad415.add (((ji62)).toNat * 2)) = some (.string ((rd_T78 t407 (ji62)).f0)) ∧ w'.cell? ⟨(ad415.add (((ji62)).toNat * 2)).block, (ad415.add (((ji62)).toNat * 2)).off + 1, none⟩ = some (.string ((rd_T78 t407 (ji62)).f1)) ∧ w'.cell? (ad405.add ((a2).toNat * 2)) = some (.string ((rd_T78 l1_1 a2).f0)) ∧ w'.cell? ⟨(ad405.add ((a2).toNat * 2)).block, (ad405.add ((a2).toNat * 2)).off + 1, none⟩ = some (.string ((rd_T78 l1_1 a2).f1)) ∧ w'.cell? (ad418.add (a2).toNat) = some (.int .i64 (rd l1_2 a2))) (ds := []) (M.tf [0, 45]) (by kernel_rfl) rfl rfl ⟨(blk_cell zbr.out 0).trans rfl, (blk_cell zbr.out 1).trans rfl, (blk_cell zbr.out 2).trans rfl, (blk_cell zap.out 0).trans rfl, (blk_cell zap.out 1).trans rfl, (blk_cell zap.out 2).trans rfl, hx415_0, hx415_1, ((HB.out.cell (World.block_lt_of_cell? w _ hw416_0)).trans hw416_0), ((HB.out.cell (World.block_lt_of_cell? w _ hw416_1)).trans hw416_1), ((HB.out.cell (World.block_lt_of_cell? w _ hw418_0)).trans hw418_0)⟩ (fun hHeld => ?_); refine with_tabW pleachref20_Child.tab6 pleachref20_Child.bits6 (fun HT_ HW_ => ?_)
                  generalize wc.drew = w78 at zci zcj zal zap zav zbr HB hx415_0 hx415_1 hx416_0 hx416_1 hx418_0 hHeld ⊢
                  refine M.pu 0 60 [1, 44] HT_ ?_
                  refine M.pu 2 62 [1, 1, 1, 42] HT_ ?_
                  refine M.pu 9 69 [1, 1, 1, 6, 1, 35] HT_ ?_
                  refine M.pu 11 71 [1, 1, 1, 6, 1, 1, 1, 33] HT_ ?_
                  refine M.tk 1 61 [3, 6, 1, 1, 1, 33] HT_ HW_ hHeld ?_
                  refine M.tk 3 63 [4, 5, 1, 1, 1, 33] HT_ HW_ hHeld ?_
                  refine M.pu 4 64 [5, 4, 1, 1, 1, 33] HT_ ?_
                  refine M.pu 5 65 [6, 3, 1, 1, 1, 33] HT_ ?_
                  refine M.pu 6 66 [7, 2, 1, 1, 1, 33] HT_ ?_
                  refine M.pu 7 67 [8, 1, 1, 1, 1, 33] HT_ ?_
                  refine M.tk 8 68 [10, 1, 1, 33] HT_ HW_ hHeld ?_
                  refine M.tk 10 70 [12, 33] HT_ HW_ hHeld ?_
                  refine M.pu 12 72 [13, 32] HT_ ?_
                  refine M.pu 13 73 [14, 31] HT_ ?_
                  refine M.tk 14 74 [15, 30] HT_ HW_ hHeld ?_
                  refine M.pu 15 75 [16, 29] HT_ ?_
                  refine M.pu 16 76 [17, 28] HT_ ?_
                  refine M.pu 19 79 [17, 2, 1, 25] HT_ ?_
                  refine M.pu 21 81 [17, 2, 1, 1, 1, 23] HT_ ?_
                  refine M.tk 17 77 [18, 1, 1, 1, 1, 23] HT_ HW_ hHeld ?_
                  refine M.tk 20 80 [18, 1, 3, 23] HT_ HW_ hHeld ?_
                  refine M.pu 22 82 [18, 1, 4, 22] HT_ ?_
                  refine M.tk 23 83 [18, 1, 5, 21] HT_ HW_ hHeld ?_
                  refine one_ (i := 18) (N := some 78) (M.tf [24, 21]) rfl rfl (one_of HT_.out (by kernel_rfl)) (by decide) (fun K hK => ?_)
                  refine goes_ Tryd.func35 (by kernel_rfl) rfl #[.agg #[.int .i64 t406, .slice (some ad415) t407.length co36, .slice Ao38 t410.length co38]] (by rfl) rfl rfl (by simp only [List.map_toArray, List.map_cons, List.map_nil]; (rfl)) ?_
                  with_reducible refine (pleachref19_Total.calls kj29 t406 _ _ t407 _ _ t410 t417 _ ?side1 ?side2 ?side3 ?side4 A68.out).mono ?_
                  (case side1 => repeat ((exact (Kd.R_reads' zci.out).2.2)))
                  (case side2 => exact (Kd.R_reads' zci.out).2.1)
                  (case side3 => repeat ((exact (Kd.R_reads' zcj.out).2.2)))
                  (case side4 => exact (Kd.R_reads' zcj.out).2.1)
                  rintro e w79 ⟨rfl, hb⟩
                  have HS6_ := (hb.cell (World.block_lt_of_cell? _ _ (hHeld.2.2.2.2.2.2.1))).trans (hHeld.2.2.2.2.2.2.1)
                  have HS7_ := (hb.cell (World.block_lt_of_cell? _ _ (hHeld.2.2.2.2.2.2.2.1))).trans (hHeld.2.2.2.2.2.2.2.1)
                  refine ⟨_, rfl, ?_⟩
                  replace zci := M.roB zci hb; replace zcj := M.roB zcj hb; replace zal := M.bkB zal hb; replace zap := M.bkB zap hb; replace zav := M.bkB zav hb; replace zbr := M.bkB zbr hb; replace HB := M.upS HB hb
                  clear hb
                  refine hK.out _ _ ⟨(blk_cell zbr.out 0).trans rfl, (blk_cell zbr.out 1).trans rfl, (blk_cell zbr.out 2).trans rfl, (blk_cell zap.out 0).trans rfl, (blk_cell zap.out 1).trans rfl, (blk_cell zap.out 2).trans rfl, HS6_, HS7_, ((HB.out.cell (World.block_lt_of_cell? w _ hw416_0)).trans hw416_0), ((HB.out.cell (World.block_lt_of_cell? w _ hw416_1)).trans hw416_1), ((HB.out.cell (World.block_lt_of_cell? w _ hw418_0)).trans hw418_0)⟩ (fun hHeld => ?_)
                  clear hK K
                  refine norm_ (a' := ?_) ?_ ?_
                  rotate_left
                  ·show Act.put _ (some 78) _ = _
                   simp only [Act.put, List.setIfInBounds_toArray, List.set_cons_zero, List.set_cons_succ, i64_w, i32_w]
                   rfl
                  refine M.pu 24 84 [25, 20] HT_ ?_
                  refine M.pu 25 85 [26, 19] HT_ ?_
                  refine M.pu 26 86 [27, 18] HT_ ?_
                  refine M.pu 27 87 [28, 17] HT_ ?_
                  refine M.pu 28 88 [29, 16] HT_ ?_
                  refine M.pu 29 89 [30, 15] HT_ ?_
                  refine M.pn 30 90 [31, 14] HT_ ?_
                  refine M.pn 31 91 [32, 13] HT_ ?_
                  refine M.pn 32 92 [33, 12] HT_ ?_
                  refine M.pn 33 93 [34, 11] HT_ ?_
                  refine M.pn 34 94 [35, 10] HT_ ?_
                  refine M.pn 35 95 [36, 9] HT_ ?_
                  refine M.pn 36 96 [37, 8] HT_ ?_
                  refine M.pn 37 97 [38, 7] HT_ ?_
                  refine M.pn 38 98 [39, 6] HT_ ?_
                  refine M.pn 39 99 [40, 5] HT_ ?_
                  refine M.pn 40 100 [41, 4] HT_ ?_
                  refine M.pn 41 101 [42, 3] HT_ ?_
                  refine M.pn 42 102 [43, 2] HT_ ?_
                  refine M.pu 43 103 [44, 1] HT_ ?_
                  refine M.pu 44 104 [45] HT_ ?_
                  refine done_ (done_of HT_.out (by kernel_rfl)) ?_
                  try go_wp2
                  go_meet
                  case rel => exact ⟨_, (false), M.eqv, H', ⟨by have := HJ3.out; have := HJ29.out; (omega)⟩, ⟨by (with_reducible repeat (first | apply Kd.R_alloc | apply Kd.R_drewN | apply Kd.R_drew)); exact zci.out⟩, ⟨by (with_reducible repeat (first | apply Kd.R_alloc | apply Kd.R_drewN | apply Kd.R_drew)); exact zcj.out⟩, ⟨M.bk zal⟩, ⟨M.bk zap⟩, ⟨M.bk zav⟩, ⟨M.bk zbr⟩, ⟨M.up HB⟩⟩
                ·rw [if_neg c70] at H
                 have c70b0 : (t417 == (rd l1_2 a2)) = false := beq_eq_false_iff_ne.mpr c70
                 have c70b1 : (t417 != (rd l1_2 a2)) = true := bne_iff_ne.mpr c70
                 have H' := Aside0.mk H
                 clear H
                 try go_wp2
                 replace zci := Aside0.mk (Kd.R_drew zci.out); replace zcj := Aside0.mk (Kd.R_drew zcj.out); replace zal := Aside0.mk (blk_drew zal.out); replace zap := Aside0.mk (blk_drew zap.out); replace zav := Aside0.mk (blk_drew zav.out); replace zbr := Aside0.mk (blk_drew zbr.out); replace HB := Aside0.mk (below_drew1 HB.out)
                 have p415 : 0 ≤ ((ji62) : Int) := M.dt
                 have q415 : (ji62) < (t407.length : Int) := M.dt
                 obtain ⟨ad415, e415, hx415_0, hx415_1⟩ := at_T78 (Kd.R_reads' zci.out).2.2 (ji62) p415 q415
                 cases e415
                 replace p415 := eq_true p415
                 replace q415 := eq_true q415
                 have p416 : 0 ≤ (a2 : Int) := M.dt
                 have q416 : a2 < (l1_1.length : Int) := M.dt
                 obtain ⟨ad416, e416, hx416_0, hx416_1⟩ := at_T78 HR1_1.out a2 p416 q416
                 have hw416_1 := hx416_1
                 have hw416_0 := hx416_0
                 obtain rfl : ad405 = ad416 := (by injection e416)
                 replace hx416_0 := M.hc HB hx416_0
                 replace hx416_1 := M.hc HB hx416_1
                 replace p416 := eq_true p416
                 replace q416 := eq_true q416
                 have p418 : 0 ≤ (a2 : Int) := M.dt
                 have q418 : a2 < (l1_2.length : Int) := M.dt
                 obtain ⟨ad418, e418, hx418_0⟩ := Kd.at_int HR1_2.out a2 p418 q418
                 have hw418_0 := hx418_0
                 cases e418
                 replace hx418_0 := M.hc HB hx418_0
                 replace p418 := eq_true p418
                 replace q418 := eq_true q418
                 refine start_ (n := 45) (S := fun w' => w'.cell? ⟨zbq, 0, none⟩ = some (.int .i64 t406) ∧ w'.cell? ⟨zbq, 1, none⟩ = some (.slice (some ad415) t407.length co36) ∧ w'.cell? ⟨zbq, 2, none⟩ = some (.slice Ao38 t410.length co38) ∧ w'.cell? ⟨zao, 0, none⟩ = some (.int .i64 a1_0) ∧ w'.cell? ⟨zao, 1, none⟩ = some (.slice (some ad405) l1_1.length c1_1) ∧ w'.cell? ⟨zao, 2, none⟩ = some (.slice (some ad418) l1_2.length c1_2) ∧ w'.cell? (ad415.add (((ji62)).toNat * 2)) = some (.string ((rd_T78 t407 (ji62)).f0)) ∧ w'.cell? ⟨(ad415.add (((ji62)).toNat * 2)).block, (ad415.add (((ji62)).toNat * 2)).off + 1, none⟩ = some (.string ((rd_T78 t407 (ji62)).f1)) ∧ w'.cell? (ad405.add ((a2).toNat * 2)) = some (.string ((rd_T78 l1_1 a2).f0)) ∧ w'.cell? ⟨(ad405.add ((a2).toNat * 2)).block, (ad405.add ((a2).toNat * 2)).off + 1, none⟩ = some (.string ((rd_T78 l1_1 a2).f1)) ∧ w'.cell? (ad418.add (a2).toNat) = some (.int .i64 (rd l1_2 a2))) (ds := []) (M.tf [0, 45]) (by kernel_rfl) rfl rfl ⟨(blk_cell zbr.out 0).trans rfl, (blk_cell zbr.out 1).trans rfl, (blk_cell zbr.out 2).trans rfl, (blk_cell zap.out 0).trans rfl, (blk_cell zap.out 1).trans rfl, (blk_cell zap.out 2).trans rfl, hx415_0, hx415_1, ((HB.out.cell (World.block_lt_of_cell? w _ hw416_0)).trans hw416_0), ((HB.out.cell (World.block_lt_of_cell? w _ hw416_1)).trans hw416_1), ((HB.out.cell (World.block_lt_of_cell? w _ hw418_0)).trans hw418_0)⟩ (fun hHeld => ?_); refine with_tabW pleachref20_Child.tab6 pleachref20_Child.bits6 (fun HT_ HW_ => ?_)
                 generalize wc.drew = w80 at zci zcj zal zap zav zbr HB hx415_0 hx415_1 hx416_0 hx416_1 hx418_0 hHeld ⊢
                 refine M.pu 0 60 [1, 44] HT_ ?_
                 refine M.pu 2 62 [1, 1, 1, 42] HT_ ?_
                 refine M.pu 9 69 [1, 1, 1, 6, 1, 35] HT_ ?_
                 refine M.pu 11 71 [1, 1, 1, 6, 1, 1, 1, 33] HT_ ?_
                 refine M.tk 1 61 [3, 6, 1, 1, 1, 33] HT_ HW_ hHeld ?_
                 refine M.tk 3 63 [4, 5, 1, 1, 1, 33] HT_ HW_ hHeld ?_
                 refine M.pu 4 64 [5, 4, 1, 1, 1, 33] HT_ ?_
                 refine M.pu 5 65 [6, 3, 1, 1, 1, 33] HT_ ?_
                 refine M.pu 6 66 [7, 2, 1, 1, 1, 33] HT_ ?_
                 refine M.pu 7 67 [8, 1, 1, 1, 1, 33] HT_ ?_
                 refine M.tk 8 68 [10, 1, 1, 33] HT_ HW_ hHeld ?_
                 refine M.tk 10 70 [12, 33] HT_ HW_ hHeld ?_
                 refine M.pu 12 72 [13, 32] HT_ ?_
                 refine M.pu 13 73 [14, 31] HT_ ?_
                 refine M.tk 14 74 [15, 30] HT_ HW_ hHeld ?_
                 refine M.pu 15 75 [16, 29] HT_ ?_
                 refine M.pu 16 76 [17, 28] HT_ ?_
                 refine M.pu 19 79 [17, 2, 1, 25] HT_ ?_
                 refine M.pu 21 81 [17, 2, 1, 1, 1, 23] HT_ ?_
                 refine M.tk 17 77 [18, 1, 1, 1, 1, 23] HT_ HW_ hHeld ?_
                 refine M.tk 20 80 [18, 1, 3, 23] HT_ HW_ hHeld ?_
                 refine M.pu 22 82 [18, 1, 4, 22] HT_ ?_
                 refine M.tk 23 83 [18, 1, 5, 21] HT_ HW_ hHeld ?_
                 refine one_ (i := 18) (N := some 78) (M.tf [24, 21]) rfl rfl (one_of HT_.out (by kernel_rfl)) (by decide) (fun K hK => ?_)
                 refine goes_ Tryd.func35 (by kernel_rfl) rfl #[.agg #[.int .i64 t406, .slice (some ad415) t407.length co36, .slice Ao38 t410.length co38]] (by rfl) rfl rfl (by simp only [List.map_toArray, List.map_cons, List.map_nil]; (rfl)) ?_
                 with_reducible refine (pleachref19_Total.calls kj29 t406 _ _ t407 _ _ t410 t417 _ ?side1 ?side2 ?side3 ?side4 A68.out).mono ?_
                 (case side1 => repeat ((exact (Kd.R_reads' zci.out).2.2)))
                 (case side2 => exact (Kd.R_reads' zci.out).2.1)
                 (case side3 => repeat ((exact (Kd.R_reads' zcj.out).2.2)))
                 (case side4 => exact (Kd.R_reads' zcj.out).2.1)
                 rintro e w81 ⟨rfl, hb⟩
                 have HS6_ := (hb.cell (World.block_lt_of_cell? _ _ (hHeld.2.2.2.2.2.2.1))).trans (hHeld.2.2.2.2.2.2.1)
                 have HS7_ := (hb.cell (World.block_lt_of_cell? _ _ (hHeld.2.2.2.2.2.2.2.1))).trans (hHeld.2.2.2.2.2.2.2.1)
                 refine ⟨_, rfl, ?_⟩
                 replace zci := M.roB zci hb; replace zcj := M.roB zcj hb; replace zal := M.bkB zal hb; replace zap := M.bkB zap hb; replace zav := M.bkB zav hb; replace zbr := M.bkB zbr hb; replace HB := M.upS HB hb
                 clear hb
                 refine hK.out _ _ ⟨(blk_cell zbr.out 0).trans rfl, (blk_cell zbr.out 1).trans rfl, (blk_cell zbr.out 2).trans rfl, (blk_cell zap.out 0).trans rfl, (blk_cell zap.out 1).trans rfl, (blk_cell zap.out 2).trans rfl, HS6_, HS7_, ((HB.out.cell (World.block_lt_of_cell? w _ hw416_0)).trans hw416_0), ((HB.out.cell (World.block_lt_of_cell? w _ hw416_1)).trans hw416_1), ((HB.out.cell (World.block_lt_of_cell? w _ hw418_0)).trans hw418_0)⟩ (fun hHeld => ?_)
                 clear hK K
                 refine norm_ (a' := ?_) ?_ ?_
                 rotate_left
                 ·show Act.put _ (some 78) _ = _
                  simp only [Act.put, List.setIfInBounds_toArray, List.set_cons_zero, List.set_cons_succ, i64_w, i32_w]
                  rfl
                 refine M.pu 24 84 [25, 20] HT_ ?_
                 refine M.pu 25 85 [26, 19] HT_ ?_
                 refine M.pu 26 86 [27, 18] HT_ ?_
                 refine M.pn 27 87 [28, 17] HT_ ?_
                 refine M.pn 28 88 [29, 16] HT_ ?_
                 refine M.pn 29 89 [30, 15] HT_ ?_
                 refine M.pn 30 90 [31, 14] HT_ ?_
                 refine M.pn 31 91 [32, 13] HT_ ?_
                 refine M.pn 32 92 [33, 12] HT_ ?_
                 refine M.pn 33 93 [34, 11] HT_ ?_
                 refine M.pn 34 94 [35, 10] HT_ ?_
                 refine M.pn 35 95 [36, 9] HT_ ?_
                 refine M.pn 36 96 [37, 8] HT_ ?_
                 refine M.pn 37 97 [38, 7] HT_ ?_
                 refine M.pn 38 98 [39, 6] HT_ ?_
                 refine M.pn 39 99 [40, 5] HT_ ?_
                 refine M.pn 40 100 [41, 4] HT_ ?_
                 refine M.pn 41 101 [42, 3] HT_ ?_
                 refine M.pn 42 102 [43, 2] HT_ ?_
                 refine M.pn 43 103 [44, 1] HT_ ?_
                 refine M.pu 44 104 [45] HT_ ?_
                 refine done_ (done_of HT_.out (by kernel_rfl)) ?_
                 try go_wp2
                 go_meet
                 case rel => exact ⟨_, (true), M.eqv, H', ⟨by have := HJ3.out; have := HJ29.out; (omega)⟩, ⟨by (with_reducible repeat (first | apply Kd.R_alloc | apply Kd.R_drewN | apply Kd.R_drew)); exact zci.out⟩, ⟨by (with_reducible repeat (first | apply Kd.R_alloc | apply Kd.R_drewN | apply Kd.R_drew)); exact zcj.out⟩, ⟨M.bk zal⟩, ⟨M.bk zap⟩, ⟨M.bk zav⟩, ⟨M.bk zbr⟩, ⟨M.up HB⟩⟩
               ·exact M.nf c69 H
              ·rw [if_neg c67] at H
               have c67b0 : (((rd_T78 t407 (ji62)).f0).toList == ((rd_T78 l1_1 a2).f0).toList) = false := beq_eq_false_iff_ne.mpr c67
               have c67b1 : (((rd_T78 t407 (ji62)).f0).toList != ((rd_T78 l1_1 a2).f0).toList) = true := bne_iff_ne.mpr c67
               have H' := Aside0.mk H
               clear H
               try go_wp2
               replace zci := Aside0.mk (Kd.R_drew zci.out); replace zcj := Aside0.mk (Kd.R_drew zcj.out); replace zal := Aside0.mk (blk_drew zal.out); replace zap := Aside0.mk (blk_drew zap.out); replace zav := Aside0.mk (blk_drew zav.out); replace zbr := Aside0.mk (blk_drew zbr.out); replace HB := Aside0.mk (below_drew1 HB.out)
               have p415 : 0 ≤ ((ji62) : Int) := M.dt
               have q415 : (ji62) < (t407.length : Int) := M.dt
               obtain ⟨ad415, e415, hx415_0, hx415_1⟩ := at_T78 (Kd.R_reads' zci.out).2.2 (ji62) p415 q415
               cases e415
               replace p415 := eq_true p415
               replace q415 := eq_true q415
               have p416 : 0 ≤ (a2 : Int) := M.dt
               have q416 : a2 < (l1_1.length : Int) := M.dt
               obtain ⟨ad416, e416, hx416_0, hx416_1⟩ := at_T78 HR1_1.out a2 p416 q416
               have hw416_1 := hx416_1
               have hw416_0 := hx416_0
               obtain rfl : ad405 = ad416 := (by injection e416)
               replace hx416_0 := M.hc HB hx416_0
               replace hx416_1 := M.hc HB hx416_1
               replace p416 := eq_true p416
               replace q416 := eq_true q416
               refine start_ (n := 45) (S := fun w' => w'.cell? ⟨zbq, 0, none⟩ = some (.int .i64 t406) ∧ w'.cell? ⟨zbq, 1, none⟩ = some (.slice (some ad415) t407.length co36) ∧ w'.cell? ⟨zbq, 2, none⟩ = some (.slice Ao38 t410.length co38) ∧ w'.cell? ⟨zao, 0, none⟩ = some (.int .i64 a1_0) ∧ w'.cell? ⟨zao, 1, none⟩ = some (.slice (some ad405) l1_1.length c1_1) ∧ w'.cell? ⟨zao, 2, none⟩ = some (.slice A1_2 l1_2.length c1_2) ∧ w'.cell? (ad415.add (((ji62)).toNat * 2)) = some (.string ((rd_T78 t407 (ji62)).f0)) ∧ w'.cell? ⟨(ad415.add (((ji62)).toNat * 2)).block, (ad415.add (((ji62)).toNat * 2)).off + 1, none⟩ = some (.string ((rd_T78 t407 (ji62)).f1)) ∧ w'.cell? (ad405.add ((a2).toNat * 2)) = some (.string ((rd_T78 l1_1 a2).f0)) ∧ w'.cell? ⟨(ad405.add ((a2).toNat * 2)).block, (ad405.add ((a2).toNat * 2)).off + 1, none⟩ = some (.string ((rd_T78 l1_1 a2).f1))) (ds := []) (M.tf [0, 45]) (by kernel_rfl) rfl rfl ⟨(blk_cell zbr.out 0).trans rfl, (blk_cell zbr.out 1).trans rfl, (blk_cell zbr.out 2).trans rfl, (blk_cell zap.out 0).trans rfl, (blk_cell zap.out 1).trans rfl, (blk_cell zap.out 2).trans rfl, hx415_0, hx415_1, ((HB.out.cell (World.block_lt_of_cell? w _ hw416_0)).trans hw416_0), ((HB.out.cell (World.block_lt_of_cell? w _ hw416_1)).trans hw416_1)⟩ (fun hHeld => ?_); refine with_tabW pleachref20_Child.tab6 pleachref20_Child.bits6 (fun HT_ HW_ => ?_)
               generalize wc.drew = w82 at zci zcj zal zap zav zbr HB hx415_0 hx415_1 hx416_0 hx416_1 hHeld ⊢
               refine M.pu 0 60 [1, 44] HT_ ?_
               refine M.pu 2 62 [1, 1, 1, 42] HT_ ?_
               refine M.pu 9 69 [1, 1, 1, 6, 1, 35] HT_ ?_
               refine M.pu 11 71 [1, 1, 1, 6, 1, 1, 1, 33] HT_ ?_
               refine M.tk 1 61 [3, 6, 1, 1, 1, 33] HT_ HW_ hHeld ?_
               refine M.tk 3 63 [4, 5, 1, 1, 1, 33] HT_ HW_ hHeld ?_
               refine M.pu 4 64 [5, 4, 1, 1, 1, 33] HT_ ?_
               refine M.pu 5 65 [6, 3, 1, 1, 1, 33] HT_ ?_
               refine M.pu 6 66 [7, 2, 1, 1, 1, 33] HT_ ?_
               refine M.pu 7 67 [8, 1, 1, 1, 1, 33] HT_ ?_
               refine M.tk 8 68 [10, 1, 1, 33] HT_ HW_ hHeld ?_
               refine M.tk 10 70 [12, 33] HT_ HW_ hHeld ?_
               refine M.pu 12 72 [13, 32] HT_ ?_
               refine M.pu 13 73 [14, 31] HT_ ?_
               refine M.tk 14 74 [15, 30] HT_ HW_ hHeld ?_
               refine M.pu 15 75 [16, 29] HT_ ?_
               refine M.pu 16 76 [17, 28] HT_ ?_
               refine M.pn 17 77 [18, 27] HT_ ?_
               refine M.pn 18 78 [19, 26] HT_ ?_
               refine M.pn 19 79 [20, 25] HT_ ?_
               refine M.pn 20 80 [21, 24] HT_ ?_
               refine M.pn 21 81 [22, 23] HT_ ?_
               refine M.pn 22 82 [23, 22] HT_ ?_
               refine M.pn 23 83 [24, 21] HT_ ?_
               refine M.pn 24 84 [25, 20] HT_ ?_
               refine M.pu 25 85 [26, 19] HT_ ?_
               refine M.pu 26 86 [27, 18] HT_ ?_
               refine M.pn 27 87 [28, 17] HT_ ?_
               refine M.pn 28 88 [29, 16] HT_ ?_
               refine M.pn 29 89 [30, 15] HT_ ?_
               refine M.pn 30 90 [31, 14] HT_ ?_
               refine M.pn 31 91 [32, 13] HT_ ?_
               refine M.pn 32 92 [33, 12] HT_ ?_
               refine M.pn 33 93 [34, 11] HT_ ?_
               refine M.pn 34 94 [35, 10] HT_ ?_
               refine M.pn 35 95 [36, 9] HT_ ?_
               refine M.pn 36 96 [37, 8] HT_ ?_
               refine M.pn 37 97 [38, 7] HT_ ?_
               refine M.pn 38 98 [39, 6] HT_ ?_
               refine M.pn 39 99 [40, 5] HT_ ?_
               refine M.pn 40 100 [41, 4] HT_ ?_
               refine M.pn 41 101 [42, 3] HT_ ?_
               refine M.pn 42 102 [43, 2] HT_ ?_
               refine M.pn 43 103 [44, 1] HT_ ?_
               refine M.pu 44 104 [45] HT_ ?_
               refine done_ (done_of HT_.out (by kernel_rfl)) ?_
               try go_wp2
               go_meet
               case rel => exact ⟨_, (true), M.eqv, H', ⟨by have := HJ3.out; have := HJ29.out; (omega)⟩, ⟨by (with_reducible repeat (first | apply Kd.R_alloc | apply Kd.R_drewN | apply Kd.R_drew)); exact zci.out⟩, ⟨by (with_reducible repeat (first | apply Kd.R_alloc | apply Kd.R_drewN | apply Kd.R_drew)); exact zcj.out⟩, ⟨M.bk zal⟩, ⟨M.bk zap⟩, ⟨M.bk zav⟩, ⟨M.bk zbr⟩, ⟨M.up HB⟩⟩
             ·exact M.nf c66 H
            ·exact M.nf c65 H
           ·exact M.nf c64 H
          ·exact M.nf c63 H
         case rest =>
          clear HC61
          obtain ⟨kq, x104_60, rfl, HA, HJ60, zci, zcj, zal, zap, zav, zbr, HB⟩ := hcut
          cases kq with
          | zero => exact absurd HA.out (by simp [pleachref20_Child.j2])
          | succ kj60 =>
           have H := HA.out
           clear HA
           simp only [pleachref20_Child.j2] at H
           by_cases c83 : x104_60 = true
           ·subst c83
            have H1 := H; rw [if_pos rfl] at H1
            clear H
            have H := H1
            clear H1
            simp only [Option.some.injEq, Prod.mk.injEq] at H
            obtain ⟨rfl, rfl, rfl, rfl⟩ := H
            have zcw := zaz.out
            have zcx := zay.out
            have zcy := zaB.out
            have zcz := zaA.out
            have zcA := zby.out
            have zcB := zbz.out
            obtain ⟨zcC, zcD, zcE⟩ := M.bc3 (w := wc) (a := .int .i64 0) (b := .slice none 0 0) (c := .slice none 0 0) zav.out
            obtain ⟨zcF, zcG, zcH⟩ := M.bf3 zav
            go_wp2
            refine bodyPost_ret (results_ct rfl _ _ zau 26 #[.int .i64 0, .slice none 0 0, .slice none 0 0] (0, 0) _ rfl (by refine M.fp (cs := #[.int .i64 0, .slice none 0 0, .slice none 0 0]) ?_ 2; refine M.fp (cs := #[.int .i64 0, .slice none 0 0, .slice none 0 0]) ?_ 1; refine M.fp (cs := #[.int .i64 0, .slice none 0 0, .slice none 0 0]) ?_ 0; exact M.bk zav) Tryd.underlying26 rfl (by kernel_rfl)) rfl ?_
            exact ⟨_, _, M.eqe, M.nl, M.nl, M.up HB⟩
           ·replace c83 := Bool.eq_false_iff.mpr c83
            subst c83
            have H1 : (some (t406, t407, t410, 0)) = some (r1, r2, r3, r4) := by rw [if_neg (show ¬ (false = true) by decide)] at H; exact H
            clear H
            have H := H1
            clear H1
            simp only [Option.some.injEq, Prod.mk.injEq] at H
            obtain ⟨rfl, rfl, rfl, rfl⟩ := H
            have zcI := zbv.out
            have zcJ := zbu.out
            have zcK := zbx.out
            have zcL := zbw.out
            have zcM := zbz.out
            have zcN := zby.out
            obtain ⟨zcO, zcP, zcQ⟩ := M.bc3 (w := wc) (a := .int .i64 t406) (b := .slice Ao36 t407.length co36) (c := .slice Ao38 t410.length co38) zbr.out
            obtain ⟨zcR, zcS, zcT⟩ := M.bf3 zbr
            have zcU := zaz.out
            have zcV := zay.out
            have zcW := zaB.out
            have zcX := zaA.out
            obtain ⟨zcY, zcZ, zc0⟩ := M.bc3 (w := wc) (a := .int .i64 0) (b := .slice none 0 0) (c := .slice none 0 0) zav.out
            obtain ⟨zc1, zc2, zc3⟩ := M.bf3 zav
            go_wp2
            refine bodyPost_ret (results_ct rfl _ _ zau 26 #[.int .i64 t406, .slice Ao36 t407.length co36, .slice Ao38 t410.length co38] (0, 0) _ rfl (by refine M.fp (cs := #[.int .i64 t406, .slice Ao36 t407.length co36, .slice none 0 0]) ?_ 2; refine M.fp (cs := #[.int .i64 t406, .slice none 0 0, .slice none 0 0]) ?_ 1; refine M.fp (cs := #[.int .i64 0, .slice none 0 0, .slice none 0 0]) ?_ 0; exact M.bk zav) Tryd.underlying26 rfl (by kernel_rfl)) rfl ?_
            exact ⟨_, _, M.eqe, by (with_reducible repeat (first | apply Kd.R_alloc | apply Kd.R_drewN | apply Kd.R_drew)); exact Kd.R_mono (Kd.R_far (p := ⟨zau, 2, none⟩) (Kd.R_far (p := ⟨zau, 1, none⟩) (Kd.R_far (p := ⟨zau, 0, none⟩) (Kd.R_types zci.out zav.out (by decide)) (fun _ hk => hk.2) (.int .i64 t406)) (fun _ hk => hk.2) (.slice Ao36 t407.length co36)) (fun _ hk => hk.2) (.slice Ao38 t410.length co38)) (fun _ hk => trivial), by (with_reducible repeat (first | apply Kd.R_alloc | apply Kd.R_drewN | apply Kd.R_drew)); exact Kd.R_mono (Kd.R_far (p := ⟨zau, 2, none⟩) (Kd.R_far (p := ⟨zau, 1, none⟩) (Kd.R_far (p := ⟨zau, 0, none⟩) (Kd.R_types zcj.out zav.out (by decide)) (fun _ hk => hk.2) (.int .i64 t406)) (fun _ hk => hk.2) (.slice Ao36 t407.length co36)) (fun _ hk => hk.2) (.slice Ao38 t410.length co38)) (fun _ hk => trivial), M.up HB⟩
     ·exact M.nf c28 H
    ·exact M.nf c27 H
end Go.Proofs.YtopllfdjlbnmfaaDoor.ETreeChildren
