-- Laid by this session's own program (wip/tools/fold.py): this session's texts, cut to what the claim names and put together; Lean checks it.
import Derived.Test.YtopllfdjlbnmfaaDoorVTreeChildren1
import Derived.Test.YtopllfdjlbnmfaaDoorVTreeChildren3
import Derived.Test.YtopllfdjlbnmfaaDoorVTreeChildren4
import Derived.Test.YtopllfdjlbnmfaaDoorVTreeChildren7
import Derived.Test.YtopllfdjlbnmfaaDoorVTreeChildren8
import Derived.Test.YtopllfdjlbnmfaaDoorXTreeChildren1
namespace Go.Proofs.YtopllfdjlbnmfaaDoor.ETreeChildren
open Go.RowKit Go.Proofs.YtopllfdjlbnmfaaDoorW.PrintWords Go.Proofs.YtopllfdjlbnmfaaDoorW.PrintLast Go.Proofs.YtopllfdjlbnmfaaDoorW.PrintMore
attribute [local go_sem] M.run_leq M.run_gtr M.run_geq max2_int min2_int max_two min_two max_three min_three max_four min_four
set_option linter.unusedVariables false
set_option linter.unusedSimpArgs false
mutual
def chunk_Take_p.j0 : Nat → ByteArray → Int → Int → Bool → Int → Option (Int × (List (S78)) × List Int × Int)
  | 0, _, _, _, _, _ => none
  | k + 1, zaa, zab, zac, zad, zae => (scan_Scan_Num.f zaa zab zac zad 8).bind fun bt236 => (chunk_Take_p.l0 k bt236.1 0 bt236.2.1 bt236.2.2.1 bt236.2.2.2.1 bt236.2.2.2.2 zae ([] : List (S78)) ([] : List Int))
def chunk_Take_p.l0 : Nat → Int → Int → ByteArray → Int → Int → Bool → Int → List (S78) → List Int → Option (Int × (List (S78)) × List Int × Int)
  | 0, _, _, _, _, _, _, _, _, _ => none
  | k + 1, x24, x25, zaa, zab, zac, zad, zae, zaf, zag => if x25 < x24 then ((scan_Scan_Text.f zaa zab zac zad 64).bind fun bt241 => (if zae > 0 then ((scan_Scan_Fix.f bt241.2.1 bt241.2.2.1 bt241.2.2.2.1 bt241.2.2.2.2 32).bind fun bt247 => ((scan_Scan_Num.f bt247.2.1 bt247.2.2.1 bt247.2.2.2.1 bt247.2.2.2.2 2147483648).bind fun bt252 => (if zag.length < 17592186044416 then (if zaf.length < 4398046511104 then (chunk_Take_p.l0 k x24 (wrap64 (x25 + 1)) bt252.2.1 bt252.2.2.1 bt252.2.2.2.1 bt252.2.2.2.2 zae (zaf ++ [(⟨bt241.1, bt247.1⟩ : S78)]) (zag ++ [bt252.1])) else (none)) else (none)))) else ((scan_Scan_Text.f bt241.2.1 bt241.2.2.1 bt241.2.2.2.1 bt241.2.2.2.2 2048).bind fun bt263 => (if zaf.length < 4398046511104 then (chunk_Take_p.l0 k x24 (wrap64 (x25 + 1)) bt263.2.1 bt263.2.2.1 bt263.2.2.2.1 bt263.2.2.2.2 zae (zaf ++ [(⟨bt241.1, bt263.1⟩ : S78)]) zag) else (none))))) else ((scan_Scan_End.f zaa zab zac zad).bind fun bt271 => (if bt271.1 = 0 then ((chunk_Check.f zae zaf zag).bind fun t276 => (if t276 = 0 then (some (zae, zaf, zag, 0)) else (some (0, ([] : List (S78)), ([] : List Int), 3)))) else (some (0, ([] : List (S78)), ([] : List Int), 3))))
end
def chunk_Take_p.f (k : Nat) (a0 : ByteArray) : Option (Int × (List (S78)) × List Int × Int) := (scan_New.f a0).bind fun bt220 => ((scan_Scan_Byte.f bt220.1 bt220.2.1 bt220.2.2.1 bt220.2.2.2).bind fun bt226 => (if bt226.1 = 76 then (chunk_Take_p.j0 k bt226.2.1 bt226.2.2.1 bt226.2.2.2.1 bt226.2.2.2.2 0) else (if bt226.1 = 73 then ((scan_Scan_Num.f bt226.2.1 bt226.2.2.1 bt226.2.2.2.1 bt226.2.2.2.2 40).bind fun bt231 => (if bt231.1 = 0 then (some (0, ([] : List (S78)), ([] : List Int), 3)) else (chunk_Take_p.j0 k bt231.2.1 bt231.2.2.1 bt231.2.2.2.1 bt231.2.2.2.2 bt231.1))) else (some (0, ([] : List (S78)), ([] : List Int), 3)))))
theorem chunk_Take_p.mono_l : ∀ k, (∀ y0 y1 y2 y3 y4, LeO (chunk_Take_p.j0 k y0 y1 y2 y3 y4) (chunk_Take_p.j0 (k + 1) y0 y1 y2 y3 y4)) ∧ (∀ y0 y1 y2 y3 y4 y5 y6 y7 y8, LeO (chunk_Take_p.l0 k y0 y1 y2 y3 y4 y5 y6 y7 y8) (chunk_Take_p.l0 (k + 1) y0 y1 y2 y3 y4 y5 y6 y7 y8))
  | 0 => ⟨fun _ _ _ _ _ r h => by simp [chunk_Take_p.j0] at h, fun _ _ _ _ _ _ _ _ _ r h => by simp [chunk_Take_p.l0] at h⟩
  | k + 1 => by
    obtain ⟨ih0, ih1⟩ := chunk_Take_p.mono_l k
    refine ⟨?_, ?_⟩
    · intro y0 y1 y2 y3 y4
      unfold chunk_Take_p.j0
      repeat' first
      | (with_reducible exact ih1 _ _ _ _ _ _ _ _ _)
      | (with_reducible exact LeO.refl _)
      | (with_reducible refine LeO.bind ?_ (fun _ => ?_))
    · intro y0 y1 y2 y3 y4 y5 y6 y7 y8
      unfold chunk_Take_p.l0
      repeat' first
      | (with_reducible exact ih1 _ _ _ _ _ _ _ _ _)
      | (with_reducible exact LeO.refl _)
      | (with_reducible refine LeO.ite ?_ ?_)
      | (with_reducible refine LeO.bind ?_ (fun _ => ?_))
theorem chunk_Take_p.mono : ∀ a0 k, LeO (chunk_Take_p.f k a0) (chunk_Take_p.f (k + 1) a0) := by
  intro a0 k
  obtain ⟨ih0, ih1⟩ := chunk_Take_p.mono_l k
  unfold chunk_Take_p.f
  repeat' first
      | (with_reducible exact ih0 _ _ _ _ _)
      | (with_reducible exact LeO.refl _)
      | (with_reducible refine LeO.ite ?_ ?_)
      | (with_reducible refine LeO.bind ?_ (fun _ => ?_))
def chunk_Take_p.T15 : Bool × List (List Nat × List Nat) := (true, [([], []), ([0], [0]), ([], []), ([2], [2]), ([3], [3]), ([1, 4, 3], [1, 4]), ([0, 1, 2, 3, 4, 5], []), ([6, 5, 5, 0, 1, 2, 3, 4, 5], [5, 6])])
def chunk_Take_p.B15 : List Nat := [0, 1, 0, 4, 12, 31, 63, 127]
theorem chunk_Take_p.tab15 : rtab .any (opsOf Tryd.f53 15) = chunk_Take_p.T15 := by kernel_rfl
theorem chunk_Take_p.bits15 : waitsOk chunk_Take_p.T15.2 chunk_Take_p.B15 = true := by kernel_rfl
set_option maxHeartbeats 8000000 in
set_option maxRecDepth 100000 in
theorem chunk_Take_p.calls (k : Nat) (a0 : ByteArray) (r1 : Int) (r2 : List (S78)) (r3 : List Int) (r4 : Int) (w : World) (h : chunk_Take_p.f k a0 = some (r1, r2, r3, r4)) :
    Calls Tryd.prog 53 #[.string a0] w fun e w' => ∃ v1_ v2_ : Value, e = .returned (.tuple #[.agg #[.int .i64 r1, v1_, v2_], .int .i64 r4]) ∧ Kd.R k78 78 w' w.heap.size (fun _ => True) v1_ r2 ∧ Kd.R (Kd.int .i64) 3 w' w.heap.size (fun _ => True) v2_ r3 ∧ Below w.heap.size w w' := by
 have hu26 := Tryd.underlying26
 have hu78 := Tryd.underlying78
 have HB := Aside0.mk (Below.refl w.heap.size w)
 have H := h; unfold chunk_Take_p.f at H
 clear h
 replace H := Option.bind_eq_some_iff.mp H
 obtain ⟨⟨t220, t221, t222, t223⟩, A20, H⟩ := H
 try simp only at H
 have A2 := Aside0.mk A20
 clear A20
 replace H := Option.bind_eq_some_iff.mp H
 obtain ⟨⟨t226, t227, t228, t229, t230⟩, A30, H⟩ := H
 try simp only at H
 have A3 := Aside0.mk A30
 clear A30
 have HC4 := Aside0.mk H
 clear H
 go_enter Tryd.func53, Tryd.ntmps53
 go_upto_block 0 with (first | ((with_reducible refine gate_dst (N := 2) rfl ?_); refine M.bx 2 26 (#[.int .i64 0, .slice none 0 0, .slice none 0 0]) ?_; intro zah hg w5 hbox hb; have zai := Aside0.mk (hbox); have zaj := M.upG HB hg; have zak := M.upG HB hg; replace HB := M.upS HB hb; clear hb hbox hg) | ((with_reducible refine gate_callee (f := 74) rfl ?_); refine M.goes (some 8) Tryd.func74 #[.string a0] rfl ?_; (with_reducible refine (scan_New.calls a0 t220 t221 t222 t223 w _ ?side1 A2.out).mono ?_); (case side1 => (with_reducible (exact HB.out))); rintro e w6 ⟨g224, rfl, hi, hb, hb2⟩; refine ⟨_, rfl, ?_⟩; replace HB := Aside0.mk (hb); have HI224 := Aside0.mk (hi); have zal := Aside0.mk (IsS148.ne_blk hi (blk_below (g := zah) (o := .cells #[.int .i64 0, .slice none 0 0, .slice none 0 0] 26 (0, 0)) (M.bk zai) hb2) (by decide)); have zam := Aside0.mk (Ne.symm (IsS148.ne_blk hi (blk_below (g := zah) (o := .cells #[.int .i64 0, .slice none 0 0, .slice none 0 0] 26 (0, 0)) (M.bk zai) hb2) (by decide))); replace zai := M.bkB zai hb2; clear hb hb2 hi) | ((with_reducible refine gate_dst (N := 5) rfl ?_); refine M.bx 5 26 (#[.int .i64 0, .slice none 0 0, .slice none 0 0]) ?_; intro zan hg w7 hbox hb; have zao := Aside0.mk (hbox); have zap := Aside0.mk ((by rw [hg]; exact (below_size (by (with_reducible (exact HB.out)))) : w.heap.size ≤ zan)); have zaq := Aside0.mk ((by rw [hg]; exact (below_size (by (with_reducible (exact HB.out)))) : w.heap.size ≤ zan)); replace HB := Aside0.mk (below_step (by (with_reducible (exact HB.out))) hb); have zar := M.bkL zai hg; have zas := M.bkG zai hg; replace zai := M.bkB zai hb; have zat := Aside0.mk ((by rw [hg]; exact Nat.ne_of_lt (IsS148.lt (show IsS148 w _ g224 t220 t221 t222 t223 from by (with_reducible (exact HI224.out)))) : g224 ≠ zan)); have zau := Aside0.mk ((by rw [hg]; exact Nat.ne_of_gt (IsS148.lt (show IsS148 w _ g224 t220 t221 t222 t223 from by (with_reducible (exact HI224.out)))) : zan ≠ g224)); replace HI224 := Aside0.mk (IsS148.below (by (with_reducible (exact HI224.out))) hb); clear hb hbox hg) | ((with_reducible refine gate_callee (f := 75) rfl ?_); refine M.goes (some 10) Tryd.func75 #[.pointer (some ⟨g224, 0, none⟩)] rfl ?_; (with_reducible refine (scan_Scan_Byte.calls g224 t220 t221 t222 t223 t226 t227 t228 t229 t230 w _ ?side1 ?side2 A3.out).mono ?_); (case side1 => (with_reducible (exact HI224.out))); (case side2 => (with_reducible (exact HB.out))); rintro e w8 ⟨rfl, hi, hb, hk⟩; refine ⟨_, rfl, ?_⟩; replace zai := Aside0.mk (KeepBut.blk hk (g' := zah) (o := .cells #[.int .i64 0, .slice none 0 0, .slice none 0 0] 26 (0, 0)) (M.bk zai) zam.out (by simp)); replace zao := Aside0.mk (KeepBut.blk hk (g' := zan) (o := .cells #[.int .i64 0, .slice none 0 0, .slice none 0 0] 26 (0, 0)) (M.bk zao) zau.out (by simp)); replace HB := Aside0.mk (hb); replace HI224 := Aside0.mk (hi); clear hb hk hi))
 simp only [Act.put, List.setIfInBounds_toArray, List.set_cons_zero, List.set_cons_succ]
 go_cut [] (fun wc => ∃ (kq : Nat) (zav : Int) (zaw : ByteArray) (zax : Int) (zay : Int) (zaz : Bool) (zaA : Int), Aside0 (chunk_Take_p.j0 kq zaw zax zay zaz zaA = some (r1, r2, r3, r4)) ∧ Aside0 (kq ≤ k) ∧ Aside0 (wc.heap[zah]? = some (.cells #[.int .i64 zav, (.slice none 0 0), (.slice none 0 0)] 26 (0, 0))) ∧ Aside0 (wc.heap[zan]? = some (.cells #[.int .i64 zaA, (.slice none 0 0), (.slice none 0 0)] 26 (0, 0))) ∧ Aside0 (IsS148 w wc g224 zaw zax zay zaz) ∧ Aside0 (Below w.heap.size w wc))
 case first =>
  have H := HC4.out
  clear HC4
  by_cases c9 : t226 = 76
  ·rw [if_pos c9] at H
   have c9b0 : (t226 == 76) = true := beq_iff_eq.mpr c9
   have c9b1 : (t226 != 76) = false := bne_eq_false_iff_eq.mpr c9
   clear c9
   ((skip))
   have H' := Aside0.mk H
   clear H
   go_wp2
   go_meet
   case rel => exact ⟨_, (0), (t227), (t228), (t229), (t230), (0), H', ⟨by (omega)⟩, ⟨M.bk zai⟩, ⟨M.bk zao⟩, ⟨by (with_reducible (exact HI224.out))⟩, ⟨by (with_reducible (exact HB.out))⟩⟩
  ·rw [if_neg c9] at H
   have c9b0 : (t226 == 76) = false := beq_eq_false_iff_ne.mpr c9
   have c9b1 : (t226 != 76) = true := bne_iff_ne.mpr c9
   ((skip))
   by_cases c10 : t226 = 73
   ·rw [if_pos c10] at H
    have c10b0 : (t226 == 73) = true := beq_iff_eq.mpr c10
    have c10b1 : (t226 != 73) = false := bne_eq_false_iff_eq.mpr c10
    clear c10
    replace H := Option.bind_eq_some_iff.mp H
    obtain ⟨⟨t231, t232, t233, t234, t235⟩, A110, H⟩ := H
    try simp only at H
    have A11 := Aside0.mk A110
    clear A110
    by_cases c12 : t231 = 0
    ·rw [if_pos c12] at H
     have c12b0 : (t231 == 0) = true := beq_iff_eq.mpr c12
     have c12b1 : (t231 != 0) = false := bne_eq_false_iff_eq.mpr c12
     clear c12
     simp only [Option.some.injEq, Prod.mk.injEq] at H
     obtain ⟨rfl, rfl, rfl, rfl⟩ := H
     go_wp2_with (((with_reducible refine gate_callee (f := 76) rfl ?_); refine M.goes (some 17) Tryd.func76 #[.pointer (some ⟨g224, 0, none⟩), .int .i64 40] rfl ?_; (with_reducible refine (scan_Scan_Num.calls g224 t227 t228 t229 t230 40 t231 t232 t233 t234 t235 w _ ?side1 ?side2 A11.out).mono ?_); (case side1 => (with_reducible (exact HI224.out))); (case side2 => (with_reducible (exact HB.out))); rintro e w13 ⟨rfl, hi, hb, hk⟩; refine ⟨_, rfl, ?_⟩; replace zai := Aside0.mk (KeepBut.blk hk (g' := zah) (o := .cells #[.int .i64 0, .slice none 0 0, .slice none 0 0] 26 (0, 0)) (M.bk zai) zam.out (by simp)); replace zao := Aside0.mk (KeepBut.blk hk (g' := zan) (o := .cells #[.int .i64 0, .slice none 0 0, .slice none 0 0] 26 (0, 0)) (M.bk zao) zau.out (by simp)); replace HB := Aside0.mk (hb); replace HI224 := Aside0.mk (hi); clear hb hk hi; have zaB := zas.out; have zaC := zar.out; have zaD := zau.out; have zaE := zat.out; obtain ⟨zaF, zaG, zaH⟩ := M.bc3 (w := w13) (a := .int .i64 0) (b := .slice none 0 0) (c := .slice none 0 0) zao.out; obtain ⟨zaI, zaJ, zaK⟩ := M.bf3 zao; have zaL := zam.out; have zaM := zal.out; obtain ⟨zaN, zaO, zaP⟩ := M.bc3 (w := w13) (a := .int .i64 0) (b := .slice none 0 0) (c := .slice none 0 0) zai.out; obtain ⟨zaQ, zaR, zaS⟩ := M.bf3 zai))
     refine bodyPost_ret (results_ct rfl _ _ zah 26 #[.int .i64 0, .slice none 0 0, .slice none 0 0] (0, 0) _ rfl (by refine M.fp (cs := #[.int .i64 0, .slice none 0 0, .slice none 0 0]) ?_ 2; refine M.fp (cs := #[.int .i64 0, .slice none 0 0, .slice none 0 0]) ?_ 1; refine M.fp (cs := #[.int .i64 0, .slice none 0 0, .slice none 0 0]) ?_ 0; refine M.fr ?_ zar; exact M.bk zai) Tryd.underlying26 rfl (by kernel_rfl)) rfl ?_
     exact ⟨_, _, M.eqe, M.nl, M.nl, by repeat ((with_reducible first | exact HB.out | refine below_set ?_ zak.out | refine below_set ?_ zaq.out))⟩
    ·rw [if_neg c12] at H
     have c12b0 : (t231 == 0) = false := beq_eq_false_iff_ne.mpr c12
     have c12b1 : (t231 != 0) = true := bne_iff_ne.mpr c12
     have H' := Aside0.mk H
     clear H
     go_wp2_with (((with_reducible refine gate_callee (f := 76) rfl ?_); refine M.goes (some 17) Tryd.func76 #[.pointer (some ⟨g224, 0, none⟩), .int .i64 40] rfl ?_; (with_reducible refine (scan_Scan_Num.calls g224 t227 t228 t229 t230 40 t231 t232 t233 t234 t235 w _ ?side1 ?side2 A11.out).mono ?_); (case side1 => (with_reducible (exact HI224.out))); (case side2 => (with_reducible (exact HB.out))); rintro e w19 ⟨rfl, hi, hb, hk⟩; refine ⟨_, rfl, ?_⟩; replace zai := Aside0.mk (KeepBut.blk hk (g' := zah) (o := .cells #[.int .i64 0, .slice none 0 0, .slice none 0 0] 26 (0, 0)) (M.bk zai) zam.out (by simp)); replace zao := Aside0.mk (KeepBut.blk hk (g' := zan) (o := .cells #[.int .i64 0, .slice none 0 0, .slice none 0 0] 26 (0, 0)) (M.bk zao) zau.out (by simp)); replace HB := Aside0.mk (hb); replace HI224 := Aside0.mk (hi); clear hb hk hi; have zaT := zas.out; have zaU := zar.out; have zaV := zau.out; have zaW := zat.out; obtain ⟨zaX, zaY, zaZ⟩ := M.bc3 (w := w19) (a := .int .i64 0) (b := .slice none 0 0) (c := .slice none 0 0) zao.out; obtain ⟨za0, za1, za2⟩ := M.bf3 zao))
     go_meet
     case rel => exact ⟨_, (0), (t232), (t233), (t234), (t235), (t231), H', ⟨by (omega)⟩, ⟨by refine M.fr ?_ zar; exact M.bk zai⟩, ⟨by refine M.fp (cs := #[.int .i64 0, .slice none 0 0, .slice none 0 0]) ?_ 0; exact M.bk zao⟩, ⟨by repeat ((with_reducible first | exact HI224.out | refine IsS148.far ?_ zat.out _))⟩, ⟨by repeat ((with_reducible first | exact HB.out | refine below_set ?_ zaq.out))⟩⟩
   ·rw [if_neg c10] at H
    have c10b0 : (t226 == 73) = false := beq_eq_false_iff_ne.mpr c10
    have c10b1 : (t226 != 73) = true := bne_iff_ne.mpr c10
    simp only [Option.some.injEq, Prod.mk.injEq] at H
    obtain ⟨rfl, rfl, rfl, rfl⟩ := H
    have za3 := zar.out
    have za4 := zas.out
    have za5 := zam.out
    have za6 := zal.out
    obtain ⟨za7, za8, za9⟩ := M.bc3 (w := w8) (a := .int .i64 0) (b := .slice none 0 0) (c := .slice none 0 0) zai.out
    obtain ⟨zba, zbb, zbc⟩ := M.bf3 zai
    go_wp2
    refine bodyPost_ret (results_ct rfl _ _ zah 26 #[.int .i64 0, .slice none 0 0, .slice none 0 0] (0, 0) _ rfl (by refine M.fp (cs := #[.int .i64 0, .slice none 0 0, .slice none 0 0]) ?_ 2; refine M.fp (cs := #[.int .i64 0, .slice none 0 0, .slice none 0 0]) ?_ 1; refine M.fp (cs := #[.int .i64 0, .slice none 0 0, .slice none 0 0]) ?_ 0; exact M.bk zai) Tryd.underlying26 rfl (by kernel_rfl)) rfl ?_
    exact ⟨_, _, M.eqe, M.nl, M.nl, by repeat ((with_reducible first | exact HB.out | refine below_set ?_ zak.out))⟩
 case rest =>
  clear HC4
  obtain ⟨kq, zav, zaw, zax, zay, zaz, zaA, HA, HJ3, zai, zao, HI224, HB⟩ := hcut
  cases kq with
  | zero => exact absurd HA.out (by simp [chunk_Take_p.j0])
  | succ kj3 =>
   have H := HA.out
   clear HA
   simp only [chunk_Take_p.j0] at H
   replace H := Option.bind_eq_some_iff.mp H
   obtain ⟨⟨t236, t237, t238, t239, t240⟩, A260, H⟩ := H
   try simp only at H
   have A26 := Aside0.mk A260
   clear A260
   have H' := Aside0.mk H
   clear H
   go_wp2_with (((with_reducible refine gate_callee (f := 76) rfl ?_); refine M.goes (some 24) Tryd.func76 #[.pointer (some ⟨g224, 0, none⟩), .int .i64 8] rfl ?_; (with_reducible refine (scan_Scan_Num.calls g224 zaw zax zay zaz 8 t236 t237 t238 t239 t240 w _ ?side1 ?side2 A26.out).mono ?_); (case side1 => (with_reducible (exact HI224.out))); (case side2 => (with_reducible (exact HB.out))); rintro e w27 ⟨rfl, hi, hb, hk⟩; refine ⟨_, rfl, ?_⟩; replace zai := Aside0.mk (KeepBut.blk hk (g' := zah) (o := .cells #[.int .i64 zav, .slice none 0 0, .slice none 0 0] 26 (0, 0)) (M.bk zai) zam.out (by simp)); replace zao := Aside0.mk (KeepBut.blk hk (g' := zan) (o := .cells #[.int .i64 zaA, .slice none 0 0, .slice none 0 0] 26 (0, 0)) (M.bk zao) zau.out (by simp)); replace HB := Aside0.mk (hb); replace HI224 := Aside0.mk (hi); clear hb hk hi))
   go_loopg [25] kj3 (fun kq v25 w' => ∃ (x25_2 : Int) (zbd : ByteArray) (zbe : Int) (zbf : Int) (zbg : Bool) (zbh : List (S78)) (zbi : List Int) (zbj : Value) (zbk : Value), v25 = .int .i64 x25_2 ∧ Aside0 (chunk_Take_p.l0 kq t236 x25_2 zbd zbe zbf zbg zaA zbh zbi = some (r1, r2, r3, r4)) ∧ Aside0 (kq ≤ kj3) ∧ Aside0 (Kd.R k78 78 w' w.heap.size (fun _ => True) zbj zbh) ∧ Aside0 (Kd.R (Kd.int .i64) 3 w' w.heap.size (fun _ => True) zbk zbi) ∧ Aside0 (w'.heap[zah]? = some (.cells #[.int .i64 zav, (.slice none 0 0), (.slice none 0 0)] 26 (0, 0))) ∧ Aside0 (w'.heap[zan]? = some (.cells #[.int .i64 zaA, zbj, zbk] 26 (0, 0))) ∧ Aside0 (IsS148 w w' g224 zbd zbe zbf zbg) ∧ Aside0 (Below w.heap.size w w'))
   case atStart => exact ⟨(0), (t237), (t238), (t239), (t240), (([] : List (S78))), (([] : List Int)), (.slice none 0 0), (.slice none 0 0), M.eqv, H', ⟨Nat.le_refl _⟩, ⟨M.nl⟩, ⟨M.nl⟩, ⟨M.bk zai⟩, ⟨M.bk zao⟩, ⟨by (with_reducible (exact HI224.out))⟩, ⟨by (with_reducible (exact HB.out))⟩⟩
   case round =>
    clear H'
    obtain ⟨x25_2, zbd, zbe, zbf, zbg, zbh, zbi, zbj, zbk, rfl, HA, HK2, zbl, zbm, zai, zao, HI224, HB⟩ := hrel
    cases gk with
    | zero => exact absurd HA.out (by simp [chunk_Take_p.l0])
    | succ k2 =>
     have H := HA.out
     clear HA
     simp only [chunk_Take_p.l0] at H
     by_cases c28 : x25_2 < t236
     ·rw [if_pos c28] at H
      have c28b0 := decide_eq_true c28
      clear c28
      replace H := Option.bind_eq_some_iff.mp H
      obtain ⟨⟨t241, t242, t243, t244, t245⟩, A290, H⟩ := H
      try simp only at H
      have A29 := Aside0.mk A290
      clear A290
      by_cases c30 : zaA > 0
      ·rw [if_pos c30] at H
       have c30b0 := decide_eq_true c30
       clear c30
       replace H := Option.bind_eq_some_iff.mp H
       obtain ⟨⟨t247, t248, t249, t250, t251⟩, A310, H⟩ := H
       try simp only at H
       have A31 := Aside0.mk A310
       clear A310
       replace H := Option.bind_eq_some_iff.mp H
       obtain ⟨⟨t252, t253, t254, t255, t256⟩, A320, H⟩ := H
       try simp only at H
       have A32 := Aside0.mk A320
       clear A320
       by_cases c33 : zbi.length < 17592186044416
       ·rw [if_pos c33] at H
        have LMc33 := Aside0.mk c33
        clear c33
        obtain ⟨y257, hy257⟩ : ∃ y_ : List Int, y_ = (zbi ++ [t252]) := ⟨_, rfl⟩
        rw [← hy257] at H
        have Ny257 := Aside0.mk hy257
        clear hy257
        by_cases c34 : zbh.length < 4398046511104
        ·rw [if_pos c34] at H
         have LMc34 := Aside0.mk c34
         clear c34
         obtain ⟨y260, hy260⟩ : ∃ y_ : List (S78), y_ = (zbh ++ [(⟨t241, t247⟩ : S78)]) := ⟨_, rfl⟩
         rw [← hy260] at H
         have Ny260 := Aside0.mk hy260
         clear hy260
         have H' := Aside0.mk H
         clear H
         try go_wp2_with (first | ((with_reducible refine gate_callee (f := 77) rfl ?_); refine M.goes (some 28) Tryd.func77 #[.pointer (some ⟨g224, 0, none⟩), .int .i64 64] rfl ?_; (with_reducible refine (scan_Scan_Text.calls g224 zbd zbe zbf zbg 64 t241 t242 t243 t244 t245 w _ ?side1 ?side2 A29.out).mono ?_); (case side1 => (with_reducible (exact HI224.out))); (case side2 => (with_reducible (exact HB.out))); rintro e w35 ⟨rfl, hi, hb, hk⟩; refine ⟨_, rfl, ?_⟩; replace zbl := Aside0.mk (Kd.R_mono (Kd.R_keep (IsS148.apart (show IsS148 w _ g224 zbd zbe zbf zbg from by (with_reducible (exact HI224.out))) (M.ro zbl) (by decide)) hk (fun _ h => h.2)) (fun _ h => h.1)); replace zbm := Aside0.mk (Kd.R_mono (Kd.R_keep (IsS148.apart (show IsS148 w _ g224 zbd zbe zbf zbg from by (with_reducible (exact HI224.out))) (M.ro zbm) (by decide)) hk (fun _ h => h.2)) (fun _ h => h.1)); replace zai := Aside0.mk (KeepBut.blk hk (g' := zah) (o := .cells #[.int .i64 zav, .slice none 0 0, .slice none 0 0] 26 (0, 0)) (M.bk zai) zam.out (by simp)); replace zao := Aside0.mk (KeepBut.blk hk (g' := zan) (o := .cells #[.int .i64 zaA, zbj, zbk] 26 (0, 0)) (M.bk zao) zau.out (by simp)); replace HB := Aside0.mk (hb); replace HI224 := Aside0.mk (hi); clear hb hk hi) | ((with_reducible refine gate_dst (N := 6) rfl ?_); refine M.bx 6 78 (#[.string (⟨#[]⟩ : ByteArray), .string (⟨#[]⟩ : ByteArray)]) ?_; intro zbn hg w36 hbox hb; replace zbl := Aside0.mk (Kd.R_below (Kd.R_elderB (M.ro zbl) zbn (Nat.le_of_eq hg.symm)) hb); replace zbm := M.roB zbm hb; have zbo := Aside0.mk (hbox); have zbp := Aside0.mk ((by rw [hg]; exact (below_size (by (with_reducible (exact HB.out)))) : w.heap.size ≤ zbn)); have zbq := Aside0.mk ((by rw [hg]; exact (below_size (by (with_reducible (exact HB.out)))) : w.heap.size ≤ zbn)); replace HB := Aside0.mk (below_step (by (with_reducible (exact HB.out))) hb); have zbr := M.bkL zai hg; have zbs := M.bkG zai hg; replace zai := M.bkB zai hb; have zbt := M.bkL zao hg; have zbu := M.bkG zao hg; replace zao := M.bkB zao hb; have zbv := Aside0.mk ((by rw [hg]; exact Nat.ne_of_lt (IsS148.lt (show IsS148 w _ g224 t242 t243 t244 t245 from by (with_reducible (exact HI224.out)))) : g224 ≠ zbn)); have zbw := Aside0.mk ((by rw [hg]; exact Nat.ne_of_gt (IsS148.lt (show IsS148 w _ g224 t242 t243 t244 t245 from by (with_reducible (exact HI224.out)))) : zbn ≠ g224)); replace HI224 := Aside0.mk (IsS148.below (by (with_reducible (exact HI224.out))) hb); clear hb hbox hg; have zbx := zbs.out; have zby := zbr.out; have zbz := zbu.out; have zbA := zbt.out; have zbB := zbw.out; have zbC := zbv.out; obtain ⟨zbD, zbE⟩ := M.bc2 (w := w36) (a := .string (⟨#[]⟩ : ByteArray)) (b := .string (⟨#[]⟩ : ByteArray)) zbo.out; obtain ⟨zbF, zbG⟩ := M.bf2 zbo; have zbH := zas.out; have zbI := zar.out; have zbJ := zau.out; have zbK := zat.out; obtain ⟨zbL, zbM, zbN⟩ := M.bc3 (w := w36) (a := .int .i64 zaA) (b := zbj) (c := zbk) zao.out; obtain ⟨zbO, zbP, zbQ⟩ := M.bf3 zao) | ((with_reducible refine gate_callee (f := 78) rfl ?_); refine M.goes (some 34) Tryd.func78 #[.pointer (some ⟨g224, 0, none⟩), .int .i64 32] rfl ?_; (with_reducible refine (scan_Scan_Fix.calls g224 t242 t243 t244 t245 32 t247 t248 t249 t250 t251 w _ ?side1 ?side2 A31.out).mono ?_); (case side1 => repeat ((with_reducible first | exact HI224.out | refine IsS148.far ?_ zbv.out _))); (case side2 => repeat ((with_reducible first | exact HB.out | refine below_set ?_ zbq.out))); rintro e w44 ⟨rfl, hi, hb, hk⟩; refine ⟨_, rfl, ?_⟩; replace zbl := Aside0.mk (Kd.R_mono (Kd.R_keep (IsS148.apart (show IsS148 w _ g224 t242 t243 t244 t245 from by repeat ((with_reducible first | exact HI224.out | refine IsS148.far ?_ zbv.out _))) (by (with_reducible repeat (first | apply Kd.R_alloc | apply Kd.R_drewN | apply Kd.R_drew)); exact (Kd.R_mono (Kd.R_far (p := ⟨zbn, 1, none⟩) (Kd.R_far (p := ⟨zbn, 0, none⟩) (Kd.R_mono zbl.out (fun k_ hk => (⟨hk, hk.2⟩ : _ ∧ k_ ≠ zbn))) (fun _ hk => hk.2) (.string t241)) (fun _ hk => hk.2) (.string (⟨#[]⟩ : ByteArray))) (fun _ h_ => h_.1))) (by decide)) hk (fun _ h => h.2)) (fun _ h => h.1)); replace zbm := Aside0.mk (Kd.R_mono (Kd.R_keep (IsS148.apart (show IsS148 w _ g224 t242 t243 t244 t245 from by repeat ((with_reducible first | exact HI224.out | refine IsS148.far ?_ zbv.out _))) (by (with_reducible repeat (first | apply Kd.R_alloc | apply Kd.R_drewN | apply Kd.R_drew)); exact (Kd.R_mono (Kd.R_far (p := ⟨zbn, 1, none⟩) (Kd.R_far (p := ⟨zbn, 0, none⟩) (Kd.R_types zbm.out zbo.out (by decide)) (fun _ hk => hk.2) (.string t241)) (fun _ hk => hk.2) (.string (⟨#[]⟩ : ByteArray))) (fun _ h_ => h_.1))) (by decide)) hk (fun _ h => h.2)) (fun _ h => h.1)); replace zai := Aside0.mk (KeepBut.blk hk (g' := zah) (o := .cells #[.int .i64 zav, .slice none 0 0, .slice none 0 0] 26 (0, 0)) (by refine M.fr ?_ zbr; refine M.fr ?_ zbr; exact M.bk zai) zam.out (by simp)); replace zao := Aside0.mk (KeepBut.blk hk (g' := zan) (o := .cells #[.int .i64 zaA, zbj, zbk] 26 (0, 0)) (by refine M.fr ?_ zbt; refine M.fr ?_ zbt; exact M.bk zao) zau.out (by simp)); replace zbo := Aside0.mk (KeepBut.blk hk (g' := zbn) (o := .cells #[.string t241, .string (⟨#[]⟩ : ByteArray)] 78 (0, 0)) (by refine M.fp (cs := #[.string t241, .string (⟨#[]⟩ : ByteArray)]) ?_ 1; refine M.fp (cs := #[.string (⟨#[]⟩ : ByteArray), .string (⟨#[]⟩ : ByteArray)]) ?_ 0; exact M.bk zbo) zbw.out (by simp)); replace HB := Aside0.mk (hb); replace HI224 := Aside0.mk (hi); clear hb hk hi; obtain ⟨zbR, zbS⟩ := M.bc2 (w := w44) (a := .string t241) (b := .string (⟨#[]⟩ : ByteArray)) zbo.out; obtain ⟨zbT, zbU⟩ := M.bf2 zbo))
         have n0_ : Aside0 (Kd.R k78 78 (w44.setCell ⟨zbn, 1, none⟩ (.string t247)) w.heap.size (fun k_ => k_ ≠ zbn) zbj zbh) := ⟨by (with_reducible repeat (first | apply Kd.R_alloc | apply Kd.R_drewN | apply Kd.R_drew)); exact Kd.R_mono (Kd.R_far (p := ⟨zbn, 1, none⟩) (Kd.R_mono zbl.out (fun k_ hk => (⟨hk, hk.2⟩ : _ ∧ k_ ≠ zbn))) (fun _ hk => hk.2) (.string t247)) (fun _ hk => hk.1.2)⟩
         have n1_ : Aside0 (Kd.R (Kd.int .i64) 3 (w44.setCell ⟨zbn, 1, none⟩ (.string t247)) w.heap.size (fun _ => True) zbk zbi) := ⟨by (with_reducible repeat (first | apply Kd.R_alloc | apply Kd.R_drewN | apply Kd.R_drew)); exact Kd.R_mono (Kd.R_far (p := ⟨zbn, 1, none⟩) (Kd.R_types zbm.out zbo.out (by decide)) (fun _ hk => hk.2) (.string t247)) (fun _ hk => trivial)⟩
         have n2_ : Aside0 ((w44.setCell ⟨zbn, 1, none⟩ (.string t247)).heap[zah]? = some (.cells #[.int .i64 zav, .slice none 0 0, .slice none 0 0] 26 (0, 0))) := ⟨by refine M.fr ?_ zbr; exact M.bk zai⟩
         have n3_ : Aside0 ((w44.setCell ⟨zbn, 1, none⟩ (.string t247)).heap[zan]? = some (.cells #[.int .i64 zaA, zbj, zbk] 26 (0, 0))) := ⟨by refine M.fr ?_ zbt; exact M.bk zao⟩
         have n4_ : Aside0 ((w44.setCell ⟨zbn, 1, none⟩ (.string t247)).heap[zbn]? = some (.cells #[.string t241, .string t247] 78 (0, 0))) := ⟨by refine M.fp (cs := #[.string t241, .string (⟨#[]⟩ : ByteArray)]) ?_ 1; exact M.bk zbo⟩
         have n5_ : Aside0 (IsS148 w (w44.setCell ⟨zbn, 1, none⟩ (.string t247)) g224 t248 t249 t250 t251) := ⟨by repeat ((with_reducible first | exact HI224.out | refine IsS148.far ?_ zbv.out _))⟩
         have n6_ : Aside0 (Below w.heap.size w (w44.setCell ⟨zbn, 1, none⟩ (.string t247))) := ⟨by repeat ((with_reducible first | exact HB.out | refine below_set ?_ zbq.out))⟩
         clear zbl
         clear zbm
         clear zai
         clear zao
         clear zbo
         clear HI224
         clear HB
         generalize (w44.setCell ⟨zbn, 1, none⟩ (.string t247)) = w46 at n0_ n1_ n2_ n3_ n4_ n5_ n6_ ⊢
         have zbl := n0_
         have zbm := n1_
         have zai := n2_
         have zao := n3_
         have zbo := n4_
         have HI224 := n5_
         have HB := n6_
         clear n0_ n1_ n2_ n3_ n4_ n5_ n6_
         replace zbl := Aside0.mk (Kd.R_drew zbl.out); replace zbm := Aside0.mk (Kd.R_drew zbm.out); replace zai := Aside0.mk (blk_drew zai.out); replace zao := Aside0.mk (blk_drew zao.out); replace zbo := Aside0.mk (blk_drew zbo.out); replace HI224 := Aside0.mk (IsS148.drew HI224.out); replace HB := Aside0.mk (below_drew1 HB.out)
         refine start_ (n := 8) (S := fun w' => w'.cell? ⟨zan, 0, none⟩ = some (.int .i64 zaA) ∧ w'.cell? ⟨zan, 1, none⟩ = some (zbj) ∧ w'.cell? ⟨zan, 2, none⟩ = some (zbk)) (ds := [7]) #[false, false, false, false, false, false, false, false] (by kernel_rfl) rfl rfl ⟨(blk_cell zao.out 0).trans rfl, (blk_cell zao.out 1).trans rfl, (blk_cell zao.out 2).trans rfl⟩ (fun hHeld => ?_); refine with_tabW chunk_Take_p.tab15 chunk_Take_p.bits15 (fun HT_ HW_ => ?_)
         generalize w46.drew = w47 at zbl zbm zai zao zbo HI224 HB hHeld ⊢
         refine M.pu 0 36 [1, 7] HT_ ?_
         refine M.pu 2 38 [1, 1, 1, 5] HT_ ?_
         refine M.tk 1 37 [3, 5] HT_ HW_ hHeld ?_
         refine one_ (i := 3) (N := some 39) #[true, true, true, true, false, false, false, false] rfl rfl (one_of HT_.out (by kernel_rfl)) (by decide) (fun K hK => ?_)
         refine goes_ Tryd.func76 (by kernel_rfl) rfl #[.pointer (some ⟨g224, 0, none⟩), .int .i64 2147483648] (by rfl) rfl rfl (by simp only [List.map_toArray, List.map_cons, List.map_nil]; (rfl)) ?_
         with_reducible refine (scan_Scan_Num.calls g224 t248 t249 t250 t251 2147483648 t252 t253 t254 t255 t256 w _ ?side1 ?side2 A32.out).mono ?_
         (case side1 => (with_reducible (exact HI224.out)))
         (case side2 => (with_reducible (exact HB.out)))
         rintro e w48 ⟨rfl, hi, hb, hk⟩
         refine ⟨_, rfl, ?_⟩
         replace zbl := Aside0.mk (Kd.R_mono (Kd.R_keep (IsS148.apart (show IsS148 w _ g224 t248 t249 t250 t251 from by (with_reducible (exact HI224.out))) (M.ro zbl) (by decide)) hk (fun _ h => h.2)) (fun _ h => h.1)); replace zbm := Aside0.mk (Kd.R_mono (Kd.R_keep (IsS148.apart (show IsS148 w _ g224 t248 t249 t250 t251 from by (with_reducible (exact HI224.out))) (M.ro zbm) (by decide)) hk (fun _ h => h.2)) (fun _ h => h.1)); replace zai := Aside0.mk (KeepBut.blk hk (g' := zah) (o := .cells #[.int .i64 zav, .slice none 0 0, .slice none 0 0] 26 (0, 0)) (M.bk zai) zam.out (by simp)); replace zao := Aside0.mk (KeepBut.blk hk (g' := zan) (o := .cells #[.int .i64 zaA, zbj, zbk] 26 (0, 0)) (M.bk zao) zau.out (by simp)); replace zbo := Aside0.mk (KeepBut.blk hk (g' := zbn) (o := .cells #[.string t241, .string t247] 78 (0, 0)) (M.bk zbo) zbw.out (by simp)); replace HB := Aside0.mk (hb); replace HI224 := Aside0.mk (hi)
         clear hb
         clear hk
         clear hi
         refine hK.out _ _ ⟨(blk_cell zao.out 0).trans rfl, (blk_cell zao.out 1).trans rfl, (blk_cell zao.out 2).trans rfl⟩ (fun hHeld => ?_)
         clear hK K
         refine norm_ (a' := ?_) ?_ ?_
         rotate_left
         ·show Act.put _ (some 39) _ = _
          simp only [Act.put, List.setIfInBounds_toArray, List.set_cons_zero, List.set_cons_succ, i64_w, i32_w]
          rfl
         refine one_ (i := 4) (N := some 40) #[true, true, true, true, true, false, false, false] rfl rfl (one_of HT_.out (by kernel_rfl)) (by decide) (fun K hK => ?_)
         refine value_ (w1 := ?_) (v := ?_) (by rfl) rfl ?_ ?_
         rotate_left 2
         ·go_simp
          constructor
          ·rfl
          ·rfl
         refine hK.out _ _ ⟨(blk_cell (blk_alloc zao.out _) 0).trans rfl, (blk_cell (blk_alloc zao.out _) 1).trans rfl, (blk_cell (blk_alloc zao.out _) 2).trans rfl⟩ (fun hHeld => ?_)
         clear hK K
         refine norm_ (a' := ?_) ?_ ?_
         rotate_left
         ·show Act.put _ (some 40) _ = _
          simp only [Act.put, List.setIfInBounds_toArray, List.set_cons_zero, List.set_cons_succ, i64_w, i32_w]
          rfl
         refine one_ (i := 5) (N := some 41) #[true, true, true, true, true, true, false, false] rfl rfl (one_of HT_.out (by kernel_rfl)) (by decide) (fun K hK => ?_)
         refine Kd.R_append_step (Kd.int .i64) (w0 := w) w.heap.size (by rfl) (.tmp 37) (.tmp 40) 24 3 (.int .i64 0) 8 rfl Tryd.underlying24 info3 rfl (by decide) (by omega) zbk zbi t252 [.int .i64 t252] (fun _ => True) (fun _ => False) rfl rfl ?aP (fun _ hk => hk.elim) ?aF ?aO ?aB ?aS ?aL ?_
         (case aP => exact rfl)
         (case aB => exact (by (with_reducible (exact HB.out))))
         (case aF => exact (fun _ _ => trivial))
         (case aO => exact (M.ro zbm))
         (case aS => exact (below_size (by (with_reducible (exact HB.out)))))
         (case aL => have := LMc33.out; omega)
         intro v258 w49 ho hb hg hat
         rw [← Ny257.out] at ho
         replace zbl := Aside0.mk (Kd.R_over' (M.ro zbl) (Kd.R_typed (M.ro zbm)) (by decide) hg); replace zai := Aside0.mk (blk_grown (g := zah) (o := .cells #[.int .i64 zav, .slice none 0 0, .slice none 0 0] 26 (0, 0)) (M.bk zai) hg (Kd.R_ne zbm.out zai.out (by decide))); replace zao := Aside0.mk (blk_grown (g := zan) (o := .cells #[.int .i64 zaA, zbj, zbk] 26 (0, 0)) (M.bk zao) hg (Kd.R_ne zbm.out zao.out (by decide))); replace HI224 := Aside0.mk (IsS148.grown (by (exact HI224.out)) hg (IsS148.own_ne HI224.out zbm.out (by decide))); replace zbo := Aside0.mk (blk_grown (g := zbn) (o := .cells #[.string t241, .string t247] 78 (0, 0)) (M.bk zbo) hg (Kd.R_ne zbm.out zbo.out (by decide))); replace HB := Aside0.mk (hb); have HO259 := Aside0.mk (ho); clear zbm
         clear ho hb hg hat
         obtain ⟨Ao50, co50, eo50⟩ := Kd.R_slice HO259.out
         ((subst eo50))
         refine hK.out _ _ ⟨(blk_cell zao.out 0).trans rfl, (blk_cell zao.out 1).trans rfl, (blk_cell zao.out 2).trans rfl⟩ (fun hHeld => ?_)
         clear hK K
         refine norm_ (a' := ?_) ?_ ?_
         rotate_left
         ·show Act.put _ (some 41) _ = _
          simp only [Act.put, List.setIfInBounds_toArray, List.set_cons_zero, List.set_cons_succ, i64_w, i32_w]
          rfl
         refine M.pu 6 42 [7, 1] HT_ ?_
         refine last_ (i := 7) (N := none) #[true, true, true, true, true, true, true, true] rfl rfl (one_of HT_.out (by kernel_rfl)) (by decide) (fun K hK => ?_)
         have hs51 : w49.cell? ⟨zan, 2, none⟩ = some (zbk) := (blk_cell zao.out 2).trans rfl
         have hfs51 := blk_frozen zao.out 2
         have hns51_0 := zar.out
         have hns51_2 := zbu.out
         have hms51_0 := zas.out
         have hms51_2 := zbt.out
         refine skip_ (w1 := ?_) (by rfl) rfl ?_ ?_
         rotate_left
         ·go_simp
          rfl
         refine hK.out _ _ ?_
         clear hK K
         refine done_ (done_of HT_.out (by kernel_rfl)) ?_
         obtain ⟨zbV, zbW, zbX⟩ := M.bc3 (w := w49) (a := .int .i64 zaA) (b := zbj) (c := zbk) zao.out
         obtain ⟨zbY, zbZ, zb0⟩ := M.bf3 zao
         obtain ⟨zb1, zb2⟩ := M.bc2 (w := w49) (a := .string t241) (b := .string t247) zbo.out
         obtain ⟨zb3, zb4⟩ := M.bf2 zbo
         try go_wp2_with (((with_reducible refine gate_builtin (b := .append) (xs := #[.tmp 47, .tmp 49]) rfl ?_); at_builtin; refine Kd.R_append k78 (w0 := w) w.heap.size rfl (.tmp 47) (.tmp 49) 23 78 (.agg #[(.string ⟨#[]⟩), (.string ⟨#[]⟩)]) 32 rfl Tryd.underlying23 info78 rfl (by decide) (by omega) zbj zbh (⟨t241, t247⟩ : S78) [.string t241, .string t247] (fun k_ => k_ ≠ zbn) (fun _ => False) rfl (by (go_simp; done)) ?aP (fun _ hk => hk.elim) ?aF ?aO ?aB ?aS ?aL ?_; (case aP => exact k78_mkM _ _ _ (⟨t241, t247⟩ : S78)); (case aB => exact (by repeat ((with_reducible first | exact HB.out | refine below_set ?_ zaq.out)))); (case aF => exact (fun k_ hk => Kd.freshB (g := zbn) (o := .cells #[.string t241, .string t247] 78 (0, 0)) (by refine M.fr ?_ zbu; exact M.bk zbo) k_ hk)); (case aO => exact (by (with_reducible repeat (first | apply Kd.R_alloc | apply Kd.R_drewN | apply Kd.R_drew)); exact Kd.R_mono (Kd.R_far (p := ⟨zan, 2, none⟩) (Kd.R_types zbl.out zao.out (by decide)) (fun _ hk => hk.2) (.slice Ao50 y257.length co50)) (fun _ hk => hk.1))); (case aS => exact (below_size (by repeat ((with_reducible first | exact HB.out | refine below_set ?_ zaq.out))))); (case aL => have := LMc34.out; omega); intro v261 w54 ho hb hg hat; rw [← Ny260.out] at ho; replace zai := Aside0.mk (blk_grown (g := zah) (o := .cells #[.int .i64 zav, .slice none 0 0, .slice none 0 0] 26 (0, 0)) (by refine M.fr ?_ zar; exact M.bk zai) hg (Kd.R_ne zbl.out zai.out (by decide))); replace HI224 := Aside0.mk (IsS148.grown (by (exact IsS148.far HI224.out zat.out _)) hg (IsS148.own_ne HI224.out zbl.out (by decide))); replace zbo := Aside0.mk (blk_grown (g := zbn) (o := .cells #[.string t241, .string t247] 78 (0, 0)) (by refine M.fr ?_ zbu; exact M.bk zbo) hg (Kd.R_away zbl.out (fun _ hk => hk))); replace HO259 := Aside0.mk (Kd.R_over' (by (with_reducible repeat (first | apply Kd.R_alloc | apply Kd.R_drewN | apply Kd.R_drew)); exact (Kd.R_mono (Kd.R_far (p := ⟨zan, 2, none⟩) (Kd.R_types HO259.out zao.out (by decide)) (fun _ hk => hk.2) (.slice Ao50 y257.length co50)) (fun _ h_ => h_.1))) (Kd.R_typed (by (with_reducible repeat (first | apply Kd.R_alloc | apply Kd.R_drewN | apply Kd.R_drew)); exact (Kd.R_mono (Kd.R_far (p := ⟨zan, 2, none⟩) (Kd.R_types zbl.out zao.out (by decide)) (fun _ hk => hk.2) (.slice Ao50 y257.length co50)) (fun _ h_ => h_.1)))) (by decide) hg); replace zao := Aside0.mk (blk_grown (g := zan) (o := .cells #[.int .i64 zaA, zbj, .slice Ao50 y257.length co50] 26 (0, 0)) (by refine M.fp (cs := #[.int .i64 zaA, zbj, zbk]) ?_ 2; exact M.bk zao) hg (Kd.R_ne zbl.out zao.out (by decide))); replace HB := Aside0.mk (hb); have HO262 := Aside0.mk (ho); clear zbl; clear ho hb hg hat; obtain ⟨Ao55, co55, eo55⟩ := Kd.R_slice HO262.out; subst eo55; obtain ⟨zb5, zb6, zb7⟩ := M.bc3 (w := w54) (a := .int .i64 zaA) (b := zbj) (c := .slice Ao50 y257.length co50) zao.out; obtain ⟨zb8, zb9, zca⟩ := M.bf3 zao))
         go_roundg k2
         case measure => have := HJ3.out; have := HK2.out; omega
         case rel => exact ⟨(wrap64 (x25_2 + 1)), (t253), (t254), (t255), (t256), (y260), (y257), (.slice Ao55 y260.length co55), (.slice Ao50 y257.length co50), M.eqv, H', ⟨by have := HJ3.out; have := HK2.out; omega⟩, ⟨by (with_reducible repeat (first | apply Kd.R_alloc | apply Kd.R_drewN | apply Kd.R_drew)); exact Kd.R_mono (Kd.R_far (p := ⟨zan, 1, none⟩) (Kd.R_types HO262.out zao.out (by decide)) (fun _ hk => hk.2) (.slice Ao55 y260.length co55)) (fun _ hk => trivial)⟩, ⟨by (with_reducible repeat (first | apply Kd.R_alloc | apply Kd.R_drewN | apply Kd.R_drew)); exact Kd.R_mono (Kd.R_far (p := ⟨zan, 1, none⟩) (Kd.R_types HO259.out zao.out (by decide)) (fun _ hk => hk.2) (.slice Ao55 y260.length co55)) (fun _ hk => trivial)⟩, ⟨by refine M.fr ?_ zar; exact M.bk zai⟩, ⟨by refine M.fp (cs := #[.int .i64 zaA, zbj, .slice Ao50 y257.length co50]) ?_ 1; exact M.bk zao⟩, ⟨by repeat ((with_reducible first | exact HI224.out | refine IsS148.far ?_ zat.out _))⟩, ⟨by repeat ((with_reducible first | exact HB.out | refine below_set ?_ zaq.out))⟩⟩
        ·exact M.nf c34 H
       ·exact M.nf c33 H
      ·rw [if_neg c30] at H
       have c30b0 := decide_eq_false c30
       clear c30
       replace H := Option.bind_eq_some_iff.mp H
       obtain ⟨⟨t263, t264, t265, t266, t267⟩, A570, H⟩ := H
       try simp only at H
       have A57 := Aside0.mk A570
       clear A570
       by_cases c58 : zbh.length < 4398046511104
       ·rw [if_pos c58] at H
        have LMc58 := Aside0.mk c58
        clear c58
        obtain ⟨y268, hy268⟩ : ∃ y_ : List (S78), y_ = (zbh ++ [(⟨t241, t263⟩ : S78)]) := ⟨_, rfl⟩
        rw [← hy268] at H
        have Ny268 := Aside0.mk hy268
        clear hy268
        have H' := Aside0.mk H
        clear H
        go_wp2_with (first | ((with_reducible refine gate_callee (f := 77) rfl ?_); refine M.goes (some 28) Tryd.func77 #[.pointer (some ⟨g224, 0, none⟩), .int .i64 64] rfl ?_; (with_reducible refine (scan_Scan_Text.calls g224 zbd zbe zbf zbg 64 t241 t242 t243 t244 t245 w _ ?side1 ?side2 A29.out).mono ?_); (case side1 => (with_reducible (exact HI224.out))); (case side2 => (with_reducible (exact HB.out))); rintro e w59 ⟨rfl, hi, hb, hk⟩; refine ⟨_, rfl, ?_⟩; replace zbl := Aside0.mk (Kd.R_mono (Kd.R_keep (IsS148.apart (show IsS148 w _ g224 zbd zbe zbf zbg from by (with_reducible (exact HI224.out))) (M.ro zbl) (by decide)) hk (fun _ h => h.2)) (fun _ h => h.1)); replace zbm := Aside0.mk (Kd.R_mono (Kd.R_keep (IsS148.apart (show IsS148 w _ g224 zbd zbe zbf zbg from by (with_reducible (exact HI224.out))) (M.ro zbm) (by decide)) hk (fun _ h => h.2)) (fun _ h => h.1)); replace zai := Aside0.mk (KeepBut.blk hk (g' := zah) (o := .cells #[.int .i64 zav, .slice none 0 0, .slice none 0 0] 26 (0, 0)) (M.bk zai) zam.out (by simp)); replace zao := Aside0.mk (KeepBut.blk hk (g' := zan) (o := .cells #[.int .i64 zaA, zbj, zbk] 26 (0, 0)) (M.bk zao) zau.out (by simp)); replace HB := Aside0.mk (hb); replace HI224 := Aside0.mk (hi); clear hb hk hi) | ((with_reducible refine gate_dst (N := 6) rfl ?_); refine M.bx 6 78 (#[.string (⟨#[]⟩ : ByteArray), .string (⟨#[]⟩ : ByteArray)]) ?_; intro zbn hg w60 hbox hb; replace zbl := Aside0.mk (Kd.R_below (Kd.R_elderB (M.ro zbl) zbn (Nat.le_of_eq hg.symm)) hb); replace zbm := M.roB zbm hb; have zbo := Aside0.mk (hbox); have zbp := Aside0.mk ((by rw [hg]; exact (below_size (by (with_reducible (exact HB.out)))) : w.heap.size ≤ zbn)); have zbq := Aside0.mk ((by rw [hg]; exact (below_size (by (with_reducible (exact HB.out)))) : w.heap.size ≤ zbn)); replace HB := Aside0.mk (below_step (by (with_reducible (exact HB.out))) hb); have zbr := M.bkL zai hg; have zbs := M.bkG zai hg; replace zai := M.bkB zai hb; have zbt := M.bkL zao hg; have zbu := M.bkG zao hg; replace zao := M.bkB zao hb; have zbv := Aside0.mk ((by rw [hg]; exact Nat.ne_of_lt (IsS148.lt (show IsS148 w _ g224 t242 t243 t244 t245 from by (with_reducible (exact HI224.out)))) : g224 ≠ zbn)); have zbw := Aside0.mk ((by rw [hg]; exact Nat.ne_of_gt (IsS148.lt (show IsS148 w _ g224 t242 t243 t244 t245 from by (with_reducible (exact HI224.out)))) : zbn ≠ g224)); replace HI224 := Aside0.mk (IsS148.below (by (with_reducible (exact HI224.out))) hb); clear hb hbox hg; have zcb := zbs.out; have zcc := zbr.out; have zcd := zbu.out; have zce := zbt.out; have zcf := zbw.out; have zcg := zbv.out; obtain ⟨zch, zci⟩ := M.bc2 (w := w60) (a := .string (⟨#[]⟩ : ByteArray)) (b := .string (⟨#[]⟩ : ByteArray)) zbo.out; obtain ⟨zcj, zck⟩ := M.bf2 zbo; have zcl := zas.out; have zcm := zar.out; have zcn := zau.out; have zco := zat.out; obtain ⟨zcp, zcq, zcr⟩ := M.bc3 (w := w60) (a := .int .i64 zaA) (b := zbj) (c := zbk) zao.out; obtain ⟨zcs, zct, zcu⟩ := M.bf3 zao) | ((with_reducible refine gate_callee (f := 77) rfl ?_); refine M.goes (some 44) Tryd.func77 #[.pointer (some ⟨g224, 0, none⟩), .int .i64 2048] rfl ?_; (with_reducible refine (scan_Scan_Text.calls g224 t242 t243 t244 t245 2048 t263 t264 t265 t266 t267 w _ ?side1 ?side2 A57.out).mono ?_); (case side1 => repeat ((with_reducible first | exact HI224.out | refine IsS148.far ?_ zbv.out _))); (case side2 => repeat ((with_reducible first | exact HB.out | refine below_set ?_ zbq.out))); rintro e w68 ⟨rfl, hi, hb, hk⟩; refine ⟨_, rfl, ?_⟩; replace zbl := Aside0.mk (Kd.R_mono (Kd.R_keep (IsS148.apart (show IsS148 w _ g224 t242 t243 t244 t245 from by repeat ((with_reducible first | exact HI224.out | refine IsS148.far ?_ zbv.out _))) (by (with_reducible repeat (first | apply Kd.R_alloc | apply Kd.R_drewN | apply Kd.R_drew)); exact (Kd.R_mono (Kd.R_far (p := ⟨zbn, 1, none⟩) (Kd.R_far (p := ⟨zbn, 0, none⟩) (Kd.R_mono zbl.out (fun k_ hk => (⟨hk, hk.2⟩ : _ ∧ k_ ≠ zbn))) (fun _ hk => hk.2) (.string t241)) (fun _ hk => hk.2) (.string (⟨#[]⟩ : ByteArray))) (fun _ h_ => h_.1))) (by decide)) hk (fun _ h => h.2)) (fun _ h => h.1)); replace zbm := Aside0.mk (Kd.R_mono (Kd.R_keep (IsS148.apart (show IsS148 w _ g224 t242 t243 t244 t245 from by repeat ((with_reducible first | exact HI224.out | refine IsS148.far ?_ zbv.out _))) (by (with_reducible repeat (first | apply Kd.R_alloc | apply Kd.R_drewN | apply Kd.R_drew)); exact (Kd.R_mono (Kd.R_far (p := ⟨zbn, 1, none⟩) (Kd.R_far (p := ⟨zbn, 0, none⟩) (Kd.R_types zbm.out zbo.out (by decide)) (fun _ hk => hk.2) (.string t241)) (fun _ hk => hk.2) (.string (⟨#[]⟩ : ByteArray))) (fun _ h_ => h_.1))) (by decide)) hk (fun _ h => h.2)) (fun _ h => h.1)); replace zai := Aside0.mk (KeepBut.blk hk (g' := zah) (o := .cells #[.int .i64 zav, .slice none 0 0, .slice none 0 0] 26 (0, 0)) (by refine M.fr ?_ zbr; refine M.fr ?_ zbr; exact M.bk zai) zam.out (by simp)); replace zao := Aside0.mk (KeepBut.blk hk (g' := zan) (o := .cells #[.int .i64 zaA, zbj, zbk] 26 (0, 0)) (by refine M.fr ?_ zbt; refine M.fr ?_ zbt; exact M.bk zao) zau.out (by simp)); replace zbo := Aside0.mk (KeepBut.blk hk (g' := zbn) (o := .cells #[.string t241, .string (⟨#[]⟩ : ByteArray)] 78 (0, 0)) (by refine M.fp (cs := #[.string t241, .string (⟨#[]⟩ : ByteArray)]) ?_ 1; refine M.fp (cs := #[.string (⟨#[]⟩ : ByteArray), .string (⟨#[]⟩ : ByteArray)]) ?_ 0; exact M.bk zbo) zbw.out (by simp)); replace HB := Aside0.mk (hb); replace HI224 := Aside0.mk (hi); clear hb hk hi; obtain ⟨zcv, zcw⟩ := M.bc2 (w := w68) (a := .string t241) (b := .string (⟨#[]⟩ : ByteArray)) zbo.out; obtain ⟨zcx, zcy⟩ := M.bf2 zbo; obtain ⟨zcz, zcA, zcB⟩ := M.bc3 (w := w68) (a := .int .i64 zaA) (b := zbj) (c := zbk) zao.out; obtain ⟨zcC, zcD, zcE⟩ := M.bf3 zao) | ((with_reducible refine gate_builtin (b := .append) (xs := #[.tmp 47, .tmp 49]) rfl ?_); at_builtin; refine Kd.R_append k78 (w0 := w) w.heap.size rfl (.tmp 47) (.tmp 49) 23 78 (.agg #[(.string ⟨#[]⟩), (.string ⟨#[]⟩)]) 32 rfl Tryd.underlying23 info78 rfl (by decide) (by omega) zbj zbh (⟨t241, t263⟩ : S78) [.string t241, .string t263] (fun k_ => k_ ≠ zbn) (fun _ => False) rfl (by (go_simp; done)) ?aP (fun _ hk => hk.elim) ?aF ?aO ?aB ?aS ?aL ?_; (case aP => exact k78_mkM _ _ _ (⟨t241, t263⟩ : S78)); (case aB => exact (by repeat ((with_reducible first | exact HB.out | refine below_set ?_ zbq.out)))); (case aF => exact (fun k_ hk => Kd.freshB (g := zbn) (o := .cells #[.string t241, .string t263] 78 (0, 0)) (by refine M.fp (cs := #[.string t241, .string (⟨#[]⟩ : ByteArray)]) ?_ 1; exact M.bk zbo) k_ hk)); (case aO => exact (by (with_reducible repeat (first | apply Kd.R_alloc | apply Kd.R_drewN | apply Kd.R_drew)); exact Kd.R_mono (Kd.R_far (p := ⟨zbn, 1, none⟩) (Kd.R_mono zbl.out (fun k_ hk => (⟨hk, hk.2⟩ : _ ∧ k_ ≠ zbn))) (fun _ hk => hk.2) (.string t263)) (fun _ hk => hk.1.2))); (case aS => exact (below_size (by repeat ((with_reducible first | exact HB.out | refine below_set ?_ zbq.out))))); (case aL => have := LMc58.out; omega); intro v269 w71 ho hb hg hat; rw [← Ny268.out] at ho; replace zbm := Aside0.mk (Kd.R_over' (by (with_reducible repeat (first | apply Kd.R_alloc | apply Kd.R_drewN | apply Kd.R_drew)); exact (Kd.R_mono (Kd.R_far (p := ⟨zbn, 1, none⟩) (Kd.R_types zbm.out zbo.out (by decide)) (fun _ hk => hk.2) (.string t263)) (fun _ h_ => h_.1))) (Kd.R_typed (by (with_reducible repeat (first | apply Kd.R_alloc | apply Kd.R_drewN | apply Kd.R_drew)); exact (Kd.R_mono (Kd.R_far (p := ⟨zbn, 1, none⟩) (Kd.R_mono zbl.out (fun k_ hk => (⟨hk, hk.2⟩ : _ ∧ k_ ≠ zbn))) (fun _ hk => hk.2) (.string t263)) (fun _ h_ => h_.1)))) (by decide) hg); replace zai := Aside0.mk (blk_grown (g := zah) (o := .cells #[.int .i64 zav, .slice none 0 0, .slice none 0 0] 26 (0, 0)) (by refine M.fr ?_ zbr; exact M.bk zai) hg (Kd.R_ne zbl.out zai.out (by decide))); replace zao := Aside0.mk (blk_grown (g := zan) (o := .cells #[.int .i64 zaA, zbj, zbk] 26 (0, 0)) (by refine M.fr ?_ zbt; exact M.bk zao) hg (Kd.R_ne zbl.out zao.out (by decide))); replace HI224 := Aside0.mk (IsS148.grown (by (exact IsS148.far HI224.out zbv.out _)) hg (IsS148.own_ne HI224.out zbl.out (by decide))); replace zbo := Aside0.mk (blk_grown (g := zbn) (o := .cells #[.string t241, .string t263] 78 (0, 0)) (by refine M.fp (cs := #[.string t241, .string (⟨#[]⟩ : ByteArray)]) ?_ 1; exact M.bk zbo) hg (Kd.R_away zbl.out (fun _ hk => hk.2))); replace HB := Aside0.mk (hb); have HO270 := Aside0.mk (ho); clear zbl; clear ho hb hg hat; obtain ⟨Ao72, co72, eo72⟩ := Kd.R_slice HO270.out; subst eo72; obtain ⟨zcF, zcG, zcH⟩ := M.bc3 (w := w71) (a := .int .i64 zaA) (b := zbj) (c := zbk) zao.out; obtain ⟨zcI, zcJ, zcK⟩ := M.bf3 zao))
        go_roundg k2
        case measure => have := HJ3.out; have := HK2.out; omega
        case rel => exact ⟨(wrap64 (x25_2 + 1)), (t264), (t265), (t266), (t267), (y268), (zbi), (.slice Ao72 y268.length co72), (zbk), M.eqv, H', ⟨by have := HJ3.out; have := HK2.out; omega⟩, ⟨by (with_reducible repeat (first | apply Kd.R_alloc | apply Kd.R_drewN | apply Kd.R_drew)); exact Kd.R_mono (Kd.R_far (p := ⟨zan, 1, none⟩) (Kd.R_types HO270.out zao.out (by decide)) (fun _ hk => hk.2) (.slice Ao72 y268.length co72)) (fun _ hk => trivial)⟩, ⟨by (with_reducible repeat (first | apply Kd.R_alloc | apply Kd.R_drewN | apply Kd.R_drew)); exact Kd.R_mono (Kd.R_far (p := ⟨zan, 1, none⟩) (Kd.R_types zbm.out zao.out (by decide)) (fun _ hk => hk.2) (.slice Ao72 y268.length co72)) (fun _ hk => trivial)⟩, ⟨by refine M.fr ?_ zar; exact M.bk zai⟩, ⟨by refine M.fp (cs := #[.int .i64 zaA, zbj, zbk]) ?_ 1; exact M.bk zao⟩, ⟨by repeat ((with_reducible first | exact HI224.out | refine IsS148.far ?_ zat.out _))⟩, ⟨by repeat ((with_reducible first | exact HB.out | refine below_set ?_ zaq.out))⟩⟩
       ·exact M.nf c58 H
     ·rw [if_neg c28] at H
      have c28b0 := decide_eq_false c28
      clear c28
      replace H := Option.bind_eq_some_iff.mp H
      obtain ⟨⟨t271, t272, t273, t274, t275⟩, A740, H⟩ := H
      try simp only at H
      have A74 := Aside0.mk A740
      clear A740
      by_cases c75 : t271 = 0
      ·rw [if_pos c75] at H
       have c75b0 : (t271 == 0) = true := beq_iff_eq.mpr c75
       have c75b1 : (t271 != 0) = false := bne_eq_false_iff_eq.mpr c75
       clear c75
       replace H := Option.bind_eq_some_iff.mp H
       obtain ⟨t276, A760, H⟩ := H
       try simp only at H
       have A76 := Aside0.mk A760
       clear A760
       by_cases c77 : t276 = 0
       ·rw [if_pos c77] at H
        have c77b0 : (t276 == 0) = true := beq_iff_eq.mpr c77
        have c77b1 : (t276 != 0) = false := bne_eq_false_iff_eq.mpr c77
        clear c77
        simp only [Option.some.injEq, Prod.mk.injEq] at H
        obtain ⟨rfl, rfl, rfl, rfl⟩ := H
        go_wp2_with (first | ((with_reducible refine gate_callee (f := 79) rfl ?_); refine M.goes (some 54) Tryd.func79 #[.pointer (some ⟨g224, 0, none⟩)] rfl ?_; (with_reducible refine (scan_Scan_End.calls g224 zbd zbe zbf zbg t271 t272 t273 t274 t275 w _ ?side1 ?side2 A74.out).mono ?_); (case side1 => (with_reducible (exact HI224.out))); (case side2 => (with_reducible (exact HB.out))); rintro e w78 ⟨rfl, hi, hb, hk⟩; refine ⟨_, rfl, ?_⟩; replace zbl := Aside0.mk (Kd.R_mono (Kd.R_keep (IsS148.apart (show IsS148 w _ g224 zbd zbe zbf zbg from by (with_reducible (exact HI224.out))) (M.ro zbl) (by decide)) hk (fun _ h => h.2)) (fun _ h => h.1)); replace zbm := Aside0.mk (Kd.R_mono (Kd.R_keep (IsS148.apart (show IsS148 w _ g224 zbd zbe zbf zbg from by (with_reducible (exact HI224.out))) (M.ro zbm) (by decide)) hk (fun _ h => h.2)) (fun _ h => h.1)); replace zai := Aside0.mk (KeepBut.blk hk (g' := zah) (o := .cells #[.int .i64 zav, .slice none 0 0, .slice none 0 0] 26 (0, 0)) (M.bk zai) zam.out (by simp)); replace zao := Aside0.mk (KeepBut.blk hk (g' := zan) (o := .cells #[.int .i64 zaA, zbj, zbk] 26 (0, 0)) (M.bk zao) zau.out (by simp)); replace HB := Aside0.mk (hb); replace HI224 := Aside0.mk (hi); clear hb hk hi; have zcL := zas.out; have zcM := zar.out; have zcN := zau.out; have zcO := zat.out; obtain ⟨zcP, zcQ, zcR⟩ := M.bc3 (w := w78) (a := .int .i64 zaA) (b := zbj) (c := zbk) zao.out; obtain ⟨zcS, zcT, zcU⟩ := M.bf3 zao; obtain ⟨Ao82, co82, eo82⟩ := Kd.R_slice zbl.out; subst eo82; obtain ⟨Ao83, co83, eo83⟩ := Kd.R_slice zbm.out; subst eo83) | (go_at_call 80; (with_reducible refine (chunk_Check.calls zaA _ _ zbh _ _ zbi t276 _ ?side1 ?side2 ?side3 ?side4 A76.out).mono ?_); (case side1 => repeat ((exact (Kd.R_reads' zbl.out).2.2))); (case side2 => exact (Kd.R_reads' zbl.out).2.1); (case side3 => repeat ((exact (Kd.R_reads' zbm.out).2.2))); (case side4 => exact (Kd.R_reads' zbm.out).2.1); rintro e w84 ⟨rfl, hb⟩; replace zbl := M.roB zbl hb; replace zbm := M.roB zbm hb; replace zai := M.bkB zai hb; replace zao := M.bkB zao hb; replace HB := Aside0.mk (below_step (by (with_reducible (exact HB.out))) hb); replace HI224 := Aside0.mk (IsS148.below (by (with_reducible (exact HI224.out))) hb); clear hb; obtain ⟨zcV, zcW, zcX⟩ := M.bc3 (w := w84) (a := .int .i64 zaA) (b := .slice Ao82 zbh.length co82) (c := .slice Ao83 zbi.length co83) zao.out; obtain ⟨zcY, zcZ, zc0⟩ := M.bf3 zao; have zc1 := zam.out; have zc2 := zal.out; obtain ⟨zc3, zc4, zc5⟩ := M.bc3 (w := w84) (a := .int .i64 zav) (b := .slice none 0 0) (c := .slice none 0 0) zai.out; obtain ⟨zc6, zc7, zc8⟩ := M.bf3 zai))
        refine bodyPost_ret (results_ct rfl _ _ zah 26 #[.int .i64 zaA, .slice Ao82 zbh.length co82, .slice Ao83 zbi.length co83] (0, 0) _ rfl (by refine M.fp (cs := #[.int .i64 zaA, .slice Ao82 zbh.length co82, .slice none 0 0]) ?_ 2; refine M.fp (cs := #[.int .i64 zaA, .slice none 0 0, .slice none 0 0]) ?_ 1; refine M.fp (cs := #[.int .i64 zav, .slice none 0 0, .slice none 0 0]) ?_ 0; exact M.bk zai) Tryd.underlying26 rfl (by kernel_rfl)) rfl ?_
        exact ⟨_, _, M.eqe, by (with_reducible repeat (first | apply Kd.R_alloc | apply Kd.R_drewN | apply Kd.R_drew)); exact Kd.R_mono (Kd.R_far (p := ⟨zah, 2, none⟩) (Kd.R_far (p := ⟨zah, 1, none⟩) (Kd.R_far (p := ⟨zah, 0, none⟩) (Kd.R_types zbl.out zai.out (by decide)) (fun _ hk => hk.2) (.int .i64 zaA)) (fun _ hk => hk.2) (.slice Ao82 zbh.length co82)) (fun _ hk => hk.2) (.slice Ao83 zbi.length co83)) (fun _ hk => trivial), by (with_reducible repeat (first | apply Kd.R_alloc | apply Kd.R_drewN | apply Kd.R_drew)); exact Kd.R_mono (Kd.R_far (p := ⟨zah, 2, none⟩) (Kd.R_far (p := ⟨zah, 1, none⟩) (Kd.R_far (p := ⟨zah, 0, none⟩) (Kd.R_types zbm.out zai.out (by decide)) (fun _ hk => hk.2) (.int .i64 zaA)) (fun _ hk => hk.2) (.slice Ao82 zbh.length co82)) (fun _ hk => hk.2) (.slice Ao83 zbi.length co83)) (fun _ hk => trivial), by repeat ((with_reducible first | exact HB.out | refine below_set ?_ zak.out))⟩
       ·rw [if_neg c77] at H
        have c77b0 : (t276 == 0) = false := beq_eq_false_iff_ne.mpr c77
        have c77b1 : (t276 != 0) = true := bne_iff_ne.mpr c77
        simp only [Option.some.injEq, Prod.mk.injEq] at H
        obtain ⟨rfl, rfl, rfl, rfl⟩ := H
        go_wp2_with (first | ((with_reducible refine gate_callee (f := 79) rfl ?_); refine M.goes (some 54) Tryd.func79 #[.pointer (some ⟨g224, 0, none⟩)] rfl ?_; (with_reducible refine (scan_Scan_End.calls g224 zbd zbe zbf zbg t271 t272 t273 t274 t275 w _ ?side1 ?side2 A74.out).mono ?_); (case side1 => (with_reducible (exact HI224.out))); (case side2 => (with_reducible (exact HB.out))); rintro e w88 ⟨rfl, hi, hb, hk⟩; refine ⟨_, rfl, ?_⟩; replace zbl := Aside0.mk (Kd.R_mono (Kd.R_keep (IsS148.apart (show IsS148 w _ g224 zbd zbe zbf zbg from by (with_reducible (exact HI224.out))) (M.ro zbl) (by decide)) hk (fun _ h => h.2)) (fun _ h => h.1)); replace zbm := Aside0.mk (Kd.R_mono (Kd.R_keep (IsS148.apart (show IsS148 w _ g224 zbd zbe zbf zbg from by (with_reducible (exact HI224.out))) (M.ro zbm) (by decide)) hk (fun _ h => h.2)) (fun _ h => h.1)); replace zai := Aside0.mk (KeepBut.blk hk (g' := zah) (o := .cells #[.int .i64 zav, .slice none 0 0, .slice none 0 0] 26 (0, 0)) (M.bk zai) zam.out (by simp)); replace zao := Aside0.mk (KeepBut.blk hk (g' := zan) (o := .cells #[.int .i64 zaA, zbj, zbk] 26 (0, 0)) (M.bk zao) zau.out (by simp)); replace HB := Aside0.mk (hb); replace HI224 := Aside0.mk (hi); clear hb hk hi; have zc9 := zas.out; have zda := zar.out; have zdb := zau.out; have zdc := zat.out; obtain ⟨zdd, zde, zdf⟩ := M.bc3 (w := w88) (a := .int .i64 zaA) (b := zbj) (c := zbk) zao.out; obtain ⟨zdg, zdh, zdi⟩ := M.bf3 zao; obtain ⟨Ao92, co92, eo92⟩ := Kd.R_slice zbl.out; subst eo92; obtain ⟨Ao93, co93, eo93⟩ := Kd.R_slice zbm.out; subst eo93) | (go_at_call 80; (with_reducible refine (chunk_Check.calls zaA _ _ zbh _ _ zbi t276 _ ?side1 ?side2 ?side3 ?side4 A76.out).mono ?_); (case side1 => repeat ((exact (Kd.R_reads' zbl.out).2.2))); (case side2 => exact (Kd.R_reads' zbl.out).2.1); (case side3 => repeat ((exact (Kd.R_reads' zbm.out).2.2))); (case side4 => exact (Kd.R_reads' zbm.out).2.1); rintro e w94 ⟨rfl, hb⟩; replace zbl := M.roB zbl hb; replace zbm := M.roB zbm hb; replace zai := M.bkB zai hb; replace zao := M.bkB zao hb; replace HB := Aside0.mk (below_step (by (with_reducible (exact HB.out))) hb); replace HI224 := Aside0.mk (IsS148.below (by (with_reducible (exact HI224.out))) hb); clear hb; have zdj := zam.out; have zdk := zal.out; obtain ⟨zdl, zdm, zdn⟩ := M.bc3 (w := w94) (a := .int .i64 zav) (b := .slice none 0 0) (c := .slice none 0 0) zai.out; obtain ⟨zdo, zdp, zdq⟩ := M.bf3 zai))
        refine bodyPost_ret (results_ct rfl _ _ zah 26 #[.int .i64 0, .slice none 0 0, .slice none 0 0] (0, 0) _ rfl (by refine M.fp (cs := #[.int .i64 0, .slice none 0 0, .slice none 0 0]) ?_ 2; refine M.fp (cs := #[.int .i64 0, .slice none 0 0, .slice none 0 0]) ?_ 1; refine M.fp (cs := #[.int .i64 zav, .slice none 0 0, .slice none 0 0]) ?_ 0; exact M.bk zai) Tryd.underlying26 rfl (by kernel_rfl)) rfl ?_
        exact ⟨_, _, M.eqe, M.nl, M.nl, by repeat ((with_reducible first | exact HB.out | refine below_set ?_ zak.out))⟩
      ·rw [if_neg c75] at H
       have c75b0 : (t271 == 0) = false := beq_eq_false_iff_ne.mpr c75
       have c75b1 : (t271 != 0) = true := bne_iff_ne.mpr c75
       simp only [Option.some.injEq, Prod.mk.injEq] at H
       obtain ⟨rfl, rfl, rfl, rfl⟩ := H
       go_wp2_with (((with_reducible refine gate_callee (f := 79) rfl ?_); refine M.goes (some 54) Tryd.func79 #[.pointer (some ⟨g224, 0, none⟩)] rfl ?_; (with_reducible refine (scan_Scan_End.calls g224 zbd zbe zbf zbg t271 t272 t273 t274 t275 w _ ?side1 ?side2 A74.out).mono ?_); (case side1 => (with_reducible (exact HI224.out))); (case side2 => (with_reducible (exact HB.out))); rintro e w97 ⟨rfl, hi, hb, hk⟩; refine ⟨_, rfl, ?_⟩; replace zbl := Aside0.mk (Kd.R_mono (Kd.R_keep (IsS148.apart (show IsS148 w _ g224 zbd zbe zbf zbg from by (with_reducible (exact HI224.out))) (M.ro zbl) (by decide)) hk (fun _ h => h.2)) (fun _ h => h.1)); replace zbm := Aside0.mk (Kd.R_mono (Kd.R_keep (IsS148.apart (show IsS148 w _ g224 zbd zbe zbf zbg from by (with_reducible (exact HI224.out))) (M.ro zbm) (by decide)) hk (fun _ h => h.2)) (fun _ h => h.1)); replace zai := Aside0.mk (KeepBut.blk hk (g' := zah) (o := .cells #[.int .i64 zav, .slice none 0 0, .slice none 0 0] 26 (0, 0)) (M.bk zai) zam.out (by simp)); replace zao := Aside0.mk (KeepBut.blk hk (g' := zan) (o := .cells #[.int .i64 zaA, zbj, zbk] 26 (0, 0)) (M.bk zao) zau.out (by simp)); replace HB := Aside0.mk (hb); replace HI224 := Aside0.mk (hi); clear hb hk hi; have zdr := zar.out; have zds := zas.out; have zdt := zam.out; have zdu := zal.out; obtain ⟨zdv, zdw, zdx⟩ := M.bc3 (w := w97) (a := .int .i64 zav) (b := .slice none 0 0) (c := .slice none 0 0) zai.out; obtain ⟨zdy, zdz, zdA⟩ := M.bf3 zai))
       refine bodyPost_ret (results_ct rfl _ _ zah 26 #[.int .i64 0, .slice none 0 0, .slice none 0 0] (0, 0) _ rfl (by refine M.fp (cs := #[.int .i64 0, .slice none 0 0, .slice none 0 0]) ?_ 2; refine M.fp (cs := #[.int .i64 0, .slice none 0 0, .slice none 0 0]) ?_ 1; refine M.fp (cs := #[.int .i64 zav, .slice none 0 0, .slice none 0 0]) ?_ 0; exact M.bk zai) Tryd.underlying26 rfl (by kernel_rfl)) rfl ?_
       exact ⟨_, _, M.eqe, M.nl, M.nl, by repeat ((with_reducible first | exact HB.out | refine below_set ?_ zak.out))⟩
def chunk_Take.fin (s : ByteArray) (lv : Int) (r : List S78 × List Int × Int × Int) : Int × List S78 × List Int × Int :=
  if M.xend s r.2.2.1 r.2.2.2 = 0 ∧ chunk_fits.wrong lv r.1 r.2.1 = 0 then (lv, r.1, r.2.1, 0) else (0, [], [], 3)
def chunk_fits.rest (s : ByteArray) (lv p er : Int) : List S78 × List Int × Int × Int := chunk_fits.read s lv (M.xnum s p er 8).1.toNat (M.xnum s p er 8).2.1 (M.xnum s p er 8).2.2
def chunk_Take.res (s : ByteArray) : Int × List S78 × List Int × Int :=
  if (M.xbyte s 0 0).1 = 76 then chunk_Take.fin s 0 (chunk_fits.rest s 0 (M.xbyte s 0 0).2.1 (M.xbyte s 0 0).2.2)
  else if (M.xbyte s 0 0).1 = 73 then (if (M.xnum s (M.xbyte s 0 0).2.1 (M.xbyte s 0 0).2.2 40).1 = 0 then (0, [], [], 3)
    else chunk_Take.fin s (M.xnum s (M.xbyte s 0 0).2.1 (M.xbyte s 0 0).2.2 40).1 (chunk_fits.rest s (M.xnum s (M.xbyte s 0 0).2.1 (M.xbyte s 0 0).2.2 40).1 (M.xnum s (M.xbyte s 0 0).2.1 (M.xbyte s 0 0).2.2 40).2.1 (M.xnum s (M.xbyte s 0 0).2.1 (M.xbyte s 0 0).2.2 40).2.2))
  else (0, [], [], 3)
def chunk_Take.f (a0 : ByteArray) : Option (Int × List S78 × List Int × Int) := if a0.size ≤ 9223372036854775806 then some (chunk_Take.res a0) else none
theorem chunk_Take.loop (s : ByteArray) (lv n : Int) (hn : n ≤ 8) (d : Nat) : ∀ (i : Nat) (p er : Int) (es : List S78) (cs : List Int), (i : Int) + d = n → M.sok s p → es.length ≤ 100 + i → cs.length ≤ 100 + i →
    chunk_Take_p.l0 (d + 1) n (i : Int) s p er true lv es cs = some (chunk_Take.fin s lv (es ++ (chunk_fits.read s lv d p er).1, cs ++ (chunk_fits.read s lv d p er).2.1, (chunk_fits.read s lv d p er).2.2.1, (chunk_fits.read s lv d p er).2.2.2)) := by
 induction d with
 | zero =>
  intro i p er es cs hi hs he hc
  rw [chunk_Take_p.l0, if_neg (by omega), scan_Scan_End.eq, Option.bind_some]
  simp only [chunk_fits.read, List.append_nil]
  unfold chunk_Take.fin chunk_Check.f
  by_cases h0 : M.xend s p er = 0
  ·rw [if_pos h0, if_pos ⟨by omega, by omega⟩, Option.bind_some]
   by_cases h1 : chunk_fits.wrong lv es cs = 0
   ·rw [if_pos h1, if_pos ⟨h0, h1⟩]
   ·rw [if_neg h1, if_neg (fun z => h1 z.2)]
  ·rw [if_neg h0, if_neg (fun z => h0 z.1)]
 | succ d ih =>
  intro i p er es cs hi hs he hc
  have hk := M.xtext_ok s er 64 hs
  have hi1 : wrap64 ((i : Int) + 1) = ((i + 1 : Nat) : Int) := by rw [M.wrap64_id (by omega) (by omega)]; omega
  rw [chunk_Take_p.l0, if_pos (by omega), hi1]
  unfold scan_Scan_Text.f
  rw [if_pos rfl, if_pos ⟨hs, by decide⟩, Option.bind_some]
  simp only
  by_cases hl : lv > 0
  ·have hv := M.xfix_ok s (M.xtext s p er 64).2.2 32 hk
   have hm := M.xnum_ok s (M.xfix s (M.xtext s p er 64).2.1 (M.xtext s p er 64).2.2 32).2.2 2147483648 hv
   unfold scan_Scan_Fix.f scan_Scan_take.f
   rw [if_pos hl, if_pos rfl, if_pos ⟨hk, by decide, by decide⟩, Option.bind_some]
   simp only
   rw [scan_Scan_Num.eq _ _ _ _ hv (by decide), Option.bind_some]
   simp only
   rw [if_pos (by omega), if_pos (by omega), ih (i + 1) _ _ _ _ (by omega) hm (by simp; omega) (by simp; omega)]
   simp only [chunk_fits.read, if_pos hl, List.append_assoc, List.singleton_append]
  ·have hv := M.xtext_ok s (M.xtext s p er 64).2.2 2048 hk
   rw [if_neg hl]
   rw [if_pos trivial, if_pos ⟨hk, by decide⟩, Option.bind_some]
   simp only
   rw [if_pos (by omega), ih (i + 1) _ _ _ _ (by omega) hv (by simp; omega) (by omega)]
   simp only [chunk_fits.read, if_neg hl, List.append_assoc, List.singleton_append]
theorem chunk_Take.ev (s : ByteArray) (r : Int × List S78 × List Int × Int) (h : chunk_Take.f s = some r) : ∃ k, chunk_Take_p.f k s = some r := by
 unfold chunk_Take.f at h
 split at h
 case isFalse => cases h
 case isTrue hz =>
  have h0 : M.sok s 0 := ⟨by decide, by omega, by omega⟩
  have hb := M.xbyte_ok s 0 h0
  have hl := M.xnum_ok s (M.xbyte s 0 0).2.2 40 hb
  have hj : ∀ (lv p er : Int), M.sok s p → ∃ k, chunk_Take_p.j0 k s p er true lv = some (chunk_Take.fin s lv (chunk_fits.rest s lv p er)) := by
   intro lv p er hs
   have hr := M.xnum_range s (er := er) hs (most := 8) (by decide) (by decide)
   refine ⟨(M.xnum s p er 8).1.toNat + 1 + 1, ?_⟩
   rw [chunk_Take_p.j0, scan_Scan_Num.eq _ _ _ _ hs (by decide), Option.bind_some]
   have := chunk_Take.loop s lv (M.xnum s p er 8).1 hr.2 (M.xnum s p er 8).1.toNat 0 (M.xnum s p er 8).2.1 (M.xnum s p er 8).2.2 [] [] (by omega) (M.xnum_ok s er 8 hs) (by simp) (by simp)
   simp only [List.nil_append] at this
   exact this
  rw [← h]
  unfold chunk_Take_p.f scan_New.f scan_Scan_Byte.f chunk_Take.res
  simp only [Option.bind_some]
  simp only [if_true, if_pos h0, Option.bind_some]
  by_cases c1 : (M.xbyte s 0 0).1 = 76
  ·obtain ⟨k, hk⟩ := hj 0 _ (M.xbyte s 0 0).2.2 hb
   exact ⟨k, by rw [if_pos c1, if_pos c1]; exact hk⟩
  ·by_cases c2 : (M.xbyte s 0 0).1 = 73
   ·by_cases c3 : (M.xnum s (M.xbyte s 0 0).2.1 (M.xbyte s 0 0).2.2 40).1 = 0
    ·refine ⟨0, ?_⟩
     rw [if_neg c1, if_pos c2, if_neg c1, if_pos c2, scan_Scan_Num.eq _ _ _ _ hb (by decide), Option.bind_some]
     simp only
     rw [if_pos c3, if_pos c3]
    ·obtain ⟨k, hk⟩ := hj (M.xnum s (M.xbyte s 0 0).2.1 (M.xbyte s 0 0).2.2 40).1 _ (M.xnum s (M.xbyte s 0 0).2.1 (M.xbyte s 0 0).2.2 40).2.2 hl
     refine ⟨k, ?_⟩
     rw [if_neg c1, if_pos c2, if_neg c1, if_pos c2, scan_Scan_Num.eq _ _ _ _ hb (by decide), Option.bind_some]
     simp only
     rw [if_neg c3, if_neg c3]
     exact hk
   ·exact ⟨0, by rw [if_neg c1, if_neg c2, if_neg c1, if_neg c2]⟩
theorem chunk_Take.calls (a0 : ByteArray) (r1 : Int) (r2 : List (S78)) (r3 : List Int) (r4 : Int) (w : World) (h : chunk_Take.f a0 = some (r1, r2, r3, r4)) :
    Calls Tryd.prog 53 #[.string a0] w fun e w' => ∃ v1_ v2_ : Value, e = .returned (.tuple #[.agg #[.int .i64 r1, v1_, v2_], .int .i64 r4]) ∧ Kd.R k78 78 w' w.heap.size (fun _ => True) v1_ r2 ∧ Kd.R (Kd.int .i64) 3 w' w.heap.size (fun _ => True) v2_ r3 ∧ Below w.heap.size w w' := by
 obtain ⟨k, hk⟩ := chunk_Take.ev _ _ h
 exact chunk_Take_p.calls (k := k) (w := w) (h := hk)
theorem tree_Load.size_ : (Tryd.prog.info? 26).map (·.size) = some 3 := by kernel_rfl
def tree_Load.of (t : ByteArray) : Int × List S78 × List Int × Int := if (chunk_Take.res t).2.2.2 = 0 then ((chunk_Take.res t).1, (chunk_Take.res t).2.1, (chunk_Take.res t).2.2.1, 0) else (0, [], [], 16)
def tree_Load.at_ (s : M.SS) (name : ByteArray) : Int × List S78 × List Int × Int := if (s.get name).2 = true then tree_Load.of (s.get name).1 else (0, [], [], 16)
theorem tree_Load.get_ (base g : Nat) (F : Nat → Prop) (s : M.SS) (name t : ByteArray) (ok : Bool) (w : World) (hS : M.Sh Tryd.prog base w g F s) (hz : name.size ≤ 9223372036854775807) (h : s.get name = (t, ok)) :
    Calls Tryd.prog 52 #[.pointer (some ⟨g, 0, none⟩), .string name] w fun e w' => e = .returned (.tuple #[.string t, .bool ok]) ∧ w = w' := by
 have := shelf_Shelf_Get.all_ base g F s name w hS hz
 rw [h] at this
 exact this
theorem tree_Load.tk (t : ByteArray) (r1 : Int) (r2 : List S78) (r3 : List Int) (er : Int) (w : World) (hz : t.size ≤ 1000000000000) (h : chunk_Take.res t = (r1, r2, r3, er)) :
    Calls Tryd.prog 53 #[.string t] w fun e w' => ∃ A1 c1 A2 c2, e = .returned (.tuple #[.agg #[.int .i64 r1, .slice A1 r2.length c1, .slice A2 r3.length c2], .int .i64 er]) ∧ Kd.R k78 78 w' w.heap.size (fun _ => True) (.slice A1 r2.length c1) r2 ∧ Kd.R (Kd.int .i64) 3 w' w.heap.size (fun _ => True) (.slice A2 r3.length c2) r3 ∧ Below w.heap.size w w' := by
 refine (chunk_Take.calls t r1 r2 r3 er w (by unfold chunk_Take.f; rw [if_pos (by omega), h])).mono ?_
 rintro e w' ⟨v1, v2, rfl, h1, h2, hb⟩
 obtain ⟨A1, c1, rfl⟩ := Kd.R_slice h1
 obtain ⟨A2, c2, rfl⟩ := Kd.R_slice h2
 exact ⟨A1, c1, A2, c2, rfl, h1, h2, hb⟩
set_option maxHeartbeats 8000000 in
set_option maxRecDepth 100000 in
theorem tree_Load.no (base g : Nat) (F : Nat → Prop) (s : M.SS) (name t : ByteArray) (w : World) (hS : M.Sh Tryd.prog base w g F s) (hz : name.size ≤ 9223372036854775807) (h : s.get name = (t, false)) :
    Calls Tryd.prog 32 #[.pointer (some ⟨g, 0, none⟩), .string name] w fun e w' => e = .returned (.tuple #[.agg #[.int .i64 0, .slice none 0 0, .slice none 0 0], .int .i64 16]) ∧ Below w.heap.size w w' := by
 have HS := Aside0.mk (hS.below (below_alloc (Below.refl w.heap.size w) (.cells #[.int .i64 0, .slice none 0 0, .slice none 0 0] 26)))
 have HG := Aside0.mk h
 clear hS h
 go_enter Tryd.func32, Tryd.ntmps32
 go_wp2_with (first | (go_at_call 52; (with_reducible refine (tree_Load.get_ base g F s name t false _ HS.out hz HG.out).mono ?_); rintro e wx ⟨rfl, rfl⟩) | ((with_reducible refine gate_store (t := 26) (p := 4) (v := .tmp 18) rfl ?_); refine M.wp_rec_store rfl 26 _ _ rfl w.heap.size 26 [.int .i64 0, .slice none 0 0, .slice none 0 0] [.int .i64 0, .slice none 0 0, .slice none 0 0] rfl rfl (M.rec_new w 26 [.int .i64 0, .slice none 0 0, .slice none 0 0]) rfl tree_Load.size_ rfl ?_; intro w3 hA3 hF3 hB3 hz3; have HC3 := Aside0.mk hA3; have HB3 := Aside0.mk (hB3 w.heap.size w (Nat.le_refl _) (below_alloc (Below.refl _ _) _)); clear hA3 hF3 hB3 hz3))
 exact bodyPost_ret (results_ct rfl _ _ w.heap.size 26 #[.int .i64 0, .slice none 0 0, .slice none 0 0] (0, 0) _ rfl HC3.out Tryd.underlying26 rfl tree_Load.size_) rfl ⟨rfl, HB3.out⟩
set_option maxHeartbeats 8000000 in
set_option maxRecDepth 100000 in
theorem tree_Load.bad (base g : Nat) (F : Nat → Prop) (s : M.SS) (name t : ByteArray) (r1 : Int) (r2 : List S78) (r3 : List Int) (er : Int) (w : World) (hS : M.Sh Tryd.prog base w g F s) (hz : name.size ≤ 9223372036854775807) (h : s.get name = (t, true)) (ht : t.size ≤ 1000000000000) (hr : chunk_Take.res t = (r1, r2, r3, er)) (he : er ≠ 0) :
    Calls Tryd.prog 32 #[.pointer (some ⟨g, 0, none⟩), .string name] w fun e w' => e = .returned (.tuple #[.agg #[.int .i64 0, .slice none 0 0, .slice none 0 0], .int .i64 16]) ∧ Below w.heap.size w w' := by
 have HB0 := Aside0.mk (below_alloc (Below.refl w.heap.size w) (.cells #[.int .i64 0, .slice none 0 0, .slice none 0 0] 26))
 have HS := Aside0.mk (hS.below HB0.out)
 have HD0 := Aside0.mk (M.rec_new w 26 [.int .i64 0, .slice none 0 0, .slice none 0 0])
 have HG := Aside0.mk h
 have HTK := Aside0.mk hr
 have he1 : decide (er = 0) = false := decide_eq_false he
 have he2 : (er == 0) = false := by simp [he]
 clear hS h hr
 go_enter Tryd.func32, Tryd.ntmps32
 go_wp2_with (first | (go_at_call 52; (with_reducible refine (tree_Load.get_ base g F s name t true _ HS.out hz HG.out).mono ?_); rintro e wx ⟨rfl, rfl⟩) | (go_at_call 53; (with_reducible refine (tree_Load.tk t r1 r2 r3 er _ ht HTK.out).mono ?_); rintro e w1 ⟨A1, c1, A2, c2, rfl, h1, h2, hb⟩; have HB1 := Aside0.mk (below_step HB0.out hb); have HD1 := Aside0.mk (M.rec_below HD0.out hb); clear h1 h2 hb) | ((with_reducible refine gate_store (t := 26) (p := 8) (v := .tmp 22) rfl ?_); refine M.wp_rec_store rfl 26 _ _ rfl w1.heap.size 26 [.int .i64 0, .slice none 0 0, .slice none 0 0] [.int .i64 r1, .slice A1 r2.length c1, .slice A2 r3.length c2] rfl rfl (M.rec_new w1 26 [.int .i64 0, .slice none 0 0, .slice none 0 0]) rfl tree_Load.size_ rfl ?_; intro w2 hA2 hF2 hB2 hz2; have hy := hB2 w1.heap.size w1 (Nat.le_refl _) (below_alloc (Below.refl _ _) _); have HD2 := Aside0.mk (M.rec_below HD1.out hy); have HB2 := Aside0.mk (below_step HB1.out hy); clear hA2 hF2 hB2 hz2 hy) | ((with_reducible refine gate_store (t := 26) (p := 4) (v := .tmp 26) rfl ?_); refine M.wp_rec_store rfl 26 _ _ rfl w.heap.size 26 [.int .i64 0, .slice none 0 0, .slice none 0 0] [.int .i64 0, .slice none 0 0, .slice none 0 0] rfl rfl HD2.out rfl tree_Load.size_ rfl ?_; intro w3 hA3 hF3 hB3 hz3; have HC3 := Aside0.mk hA3; have HB3 := Aside0.mk (hB3 w.heap.size w (Nat.le_refl _) HB2.out); clear hA3 hF3 hB3 hz3))
 exact bodyPost_ret (results_ct rfl _ _ w.heap.size 26 #[.int .i64 0, .slice none 0 0, .slice none 0 0] (0, 0) _ rfl HC3.out Tryd.underlying26 rfl tree_Load.size_) rfl ⟨rfl, HB3.out⟩
set_option maxHeartbeats 8000000 in
set_option maxRecDepth 100000 in
theorem tree_Load.good (base g : Nat) (F : Nat → Prop) (s : M.SS) (name t : ByteArray) (r1 : Int) (r2 : List S78) (r3 : List Int) (w : World) (hS : M.Sh Tryd.prog base w g F s) (hz : name.size ≤ 9223372036854775807) (h : s.get name = (t, true)) (ht : t.size ≤ 1000000000000) (hr : chunk_Take.res t = (r1, r2, r3, 0)) :
    Calls Tryd.prog 32 #[.pointer (some ⟨g, 0, none⟩), .string name] w fun e w' => ∃ A1 c1 A2 c2, e = .returned (.tuple #[.agg #[.int .i64 r1, .slice A1 r2.length c1, .slice A2 r3.length c2], .int .i64 0]) ∧ Kd.R k78 78 w' w.heap.size (fun _ => True) (.slice A1 r2.length c1) r2 ∧ Kd.R (Kd.int .i64) 3 w' w.heap.size (fun _ => True) (.slice A2 r3.length c2) r3 ∧ Below w.heap.size w w' := by
 have HB0 := Aside0.mk (below_alloc (Below.refl w.heap.size w) (.cells #[.int .i64 0, .slice none 0 0, .slice none 0 0] 26))
 have hlt0 : w.heap.size < (w.alloc (.cells #[.int .i64 0, .slice none 0 0, .slice none 0 0] 26)).heap.size := M.alloc_lt w _
 have HS := Aside0.mk (hS.below HB0.out)
 have HD0 := Aside0.mk (M.rec_new w 26 [.int .i64 0, .slice none 0 0, .slice none 0 0])
 have HG := Aside0.mk h
 have HTK := Aside0.mk hr
 clear hS h hr
 go_enter Tryd.func32, Tryd.ntmps32
 go_wp2_with (first | (go_at_call 52; (with_reducible refine (tree_Load.get_ base g F s name t true _ HS.out hz HG.out).mono ?_); rintro e wx ⟨rfl, rfl⟩) | (go_at_call 53; (with_reducible refine (tree_Load.tk t r1 r2 r3 0 _ ht HTK.out).mono ?_); rintro e w1 ⟨A1, c1, A2, c2, rfl, h1, h2, hb⟩; have HR1 := Aside0.mk h1; have HI1 := Aside0.mk h2; have HB1 := Aside0.mk (below_step HB0.out hb); have HD1 := Aside0.mk (M.rec_below HD0.out hb); clear h1 h2 hb) | ((with_reducible refine gate_store (t := 26) (p := 8) (v := .tmp 22) rfl ?_); refine M.wp_rec_store rfl 26 _ _ rfl w1.heap.size 26 [.int .i64 0, .slice none 0 0, .slice none 0 0] [.int .i64 r1, .slice A1 r2.length c1, .slice A2 r3.length c2] rfl rfl (M.rec_new w1 26 [.int .i64 0, .slice none 0 0, .slice none 0 0]) rfl tree_Load.size_ rfl ?_; intro w2 hA2 hF2 hB2 hz2; have hy := hB2 w1.heap.size w1 (Nat.le_refl _) (below_alloc (Below.refl _ _) _); have HX2 := Aside0.mk hA2; have HR2 := Aside0.mk (Kd.R_below HR1.out hy); have HI2 := Aside0.mk (Kd.R_below HI1.out hy); have HD2 := Aside0.mk (M.rec_below HD1.out hy); have HB2 := Aside0.mk (below_step HB1.out hy); clear hA2 hF2 hB2 hz2 hy) | ((with_reducible refine gate_dst (N := 27) rfl ?_); ((refine gate_guard (by rfl) ?_; dsimp only)); refine M.wp_rec_load rfl 26 _ rfl (w1.heap.size) 26 [.int .i64 r1, .slice A1 r2.length c1, .slice A2 r3.length c2] rfl HX2.out _ Tryd.underlying26 rfl tree_Load.size_ ?_) | ((with_reducible refine gate_store (t := 26) (p := 4) (v := .tmp 27) rfl ?_); refine M.wp_rec_store rfl 26 _ _ rfl w.heap.size 26 [.int .i64 0, .slice none 0 0, .slice none 0 0] [.int .i64 r1, .slice A1 r2.length c1, .slice A2 r3.length c2] rfl rfl HD2.out rfl tree_Load.size_ rfl ?_; intro w3 hA3 hF3 hB3 hz3; have HC3 := Aside0.mk hA3; have HR3 := Aside0.mk (M.row_past0 HR2.out hlt0 hF3); have HI3 := Aside0.mk (M.row_past0 HI2.out hlt0 hF3); have HB3 := Aside0.mk (hB3 w.heap.size w (Nat.le_refl _) HB2.out); clear hA3 hF3 hB3 hz3))
 exact bodyPost_ret (results_ct rfl _ _ w.heap.size 26 #[.int .i64 r1, .slice A1 r2.length c1, .slice A2 r3.length c2] (0, 0) _ rfl HC3.out Tryd.underlying26 rfl tree_Load.size_) rfl ⟨A1, c1, A2, c2, rfl, Kd.R_lower HR3.out (Nat.le_of_lt hlt0), Kd.R_lower HI3.out (Nat.le_of_lt hlt0), HB3.out⟩
theorem tree_Load.any (base g : Nat) (F : Nat → Prop) (s : M.SS) (name : ByteArray) (w : World) (hS : M.Sh Tryd.prog base w g F s) (hz : name.size ≤ 9223372036854775807) (hts : ∀ t ∈ s.ts, t.size ≤ 1000000000000) (r1 : Int) (r2 : List S78) (r3 : List Int) (er : Int) (h : tree_Load.at_ s name = (r1, r2, r3, er)) :
    Calls Tryd.prog 32 #[.pointer (some ⟨g, 0, none⟩), .string name] w fun e w' => ∃ A1 c1 A2 c2, e = .returned (.tuple #[.agg #[.int .i64 r1, .slice A1 r2.length c1, .slice A2 r3.length c2], .int .i64 er]) ∧ Kd.R k78 78 w' w.heap.size (fun _ => True) (.slice A1 r2.length c1) r2 ∧ Kd.R (Kd.int .i64) 3 w' w.heap.size (fun _ => True) (.slice A2 r3.length c2) r3 ∧ Below w.heap.size w w' := by
 unfold tree_Load.at_ at h
 obtain ⟨⟨t, ok⟩, hg⟩ : ∃ y, s.get name = y := ⟨_, rfl⟩
 rw [hg] at h
 have hbad : ((0 : Int), ([] : List S78), ([] : List Int), (16 : Int)) = (r1, r2, r3, er) → (Calls Tryd.prog 32 #[.pointer (some ⟨g, 0, none⟩), .string name] w fun e w' => e = .returned (.tuple #[.agg #[.int .i64 0, .slice none 0 0, .slice none 0 0], .int .i64 16]) ∧ Below w.heap.size w w') → Calls Tryd.prog 32 #[.pointer (some ⟨g, 0, none⟩), .string name] w fun e w' => ∃ A1 c1 A2 c2, e = .returned (.tuple #[.agg #[.int .i64 r1, .slice A1 r2.length c1, .slice A2 r3.length c2], .int .i64 er]) ∧ Kd.R k78 78 w' w.heap.size (fun _ => True) (.slice A1 r2.length c1) r2 ∧ Kd.R (Kd.int .i64) 3 w' w.heap.size (fun _ => True) (.slice A2 r3.length c2) r3 ∧ Below w.heap.size w w' := by
  intro e1 e2
  injection e1 with x1 e1
  injection e1 with x2 e1
  injection e1 with x3 x4
  subst x1 x2 x3 x4
  refine e2.mono ?_
  rintro e w' ⟨rfl, hb⟩
  exact ⟨none, 0, none, 0, rfl, Kd.R_nil _ _ _ _ _, Kd.R_nil _ _ _ _ _, hb⟩
 cases ok with
 | false =>
  rw [if_neg (by simp)] at h
  exact hbad h (tree_Load.no base g F s name t w hS hz hg)
 | true =>
  rw [if_pos rfl] at h
  have ht : t.size ≤ 1000000000000 := by
   have h1 : (s.get name).1 = t := by rw [hg]
   unfold M.SS.get at h1 hg
   cases hi : M.idx (s.ts.map M.shaSum) name.data.toList with
   | none => rw [hi] at hg; injection hg with _ h2; cases h2
   | some i =>
    rw [hi] at h1
    rw [← h1]
    exact hts _ (M.getD_mem (by have := (M.idx_lt hi).1; simpa using this))
  unfold tree_Load.of at h
  obtain ⟨⟨q1, q2, q3, q4⟩, hq⟩ : ∃ y, chunk_Take.res t = y := ⟨_, rfl⟩
  simp only at h
  rw [hq] at h
  by_cases hz4 : q4 = 0
  ·subst hz4
   rw [if_pos rfl] at h
   injection h with x1 h
   injection h with x2 h
   injection h with x3 x4
   subst x1 x2 x3 x4
   exact tree_Load.good base g F s name t q1 q2 q3 w hS hz hg ht hq
  ·rw [if_neg hz4] at h
   exact hbad h (tree_Load.bad base g F s name t q1 q2 q3 q4 w hS hz hg ht hq hz4)
end Go.Proofs.YtopllfdjlbnmfaaDoor.ETreeChildren
