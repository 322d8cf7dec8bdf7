-- Laid by this session's own program (wip/tools/fold.py): this session's texts, cut to what the claim names and put together; Lean checks it.
import Derived.Test.YtkjbhgolillidaaDoorVMarkNames1
import Derived.Test.YtkjbhgolillidaaDoorVMarkNames3
import Derived.Test.YtkjbhgolillidaaDoorVMarkNames5
import Derived.Test.YtkjbhgolillidaaDoorVMarkNames9
import Derived.Test.YtkjbhgolillidaaDoorVMarkNames10
import Derived.Test.YtkjbhgolillidaaDoorVMarkNames11
import Derived.Test.YtkjbhgolillidaaDoorVMarkNames12
import Derived.Test.YtkjbhgolillidaaDoorXMarkNames1
namespace Go.Proofs.YtkjbhgolillidaaDoor.EMarkNames
open Go.RowKit Go.Proofs.YtkjbhgolillidaaDoorW.PrintWords Go.Proofs.YtkjbhgolillidaaDoorW.PrintLast Go.Proofs.YtkjbhgolillidaaDoorW.PrintMore
attribute [local go_sem] M.run_leq M.run_gtr M.run_geq max2_int min2_int max_two min_two max_three min_three max_four min_four
set_option linter.unusedVariables false
set_option linter.unusedSimpArgs false
mutual
def pleachref19_Take_p.j0 : Nat → ByteArray → Int → ByteArray → Int → Int → Option (Int × (List (S43)) × List Int × Bool)
  | 0, _, _, _, _, _ => none
  | k + 1, x0, zaa, zab, zac, zad => (pleachref04_Num.f zab zac zad 8).bind fun bt367 => (pleachref19_Take_p.l0 k x0 bt367.2.2.2 0 zaa ([] : List (S43)) ([] : List Int) bt367.1 bt367.2.1 bt367.2.2.1)
def pleachref19_Take_p.l0 : Nat → ByteArray → Int → Int → Int → List (S43) → List Int → ByteArray → Int → Int → Option (Int × (List (S43)) × List Int × Bool)
  | 0, _, _, _, _, _, _, _, _, _ => none
  | k + 1, x0, x7, x8, zaa, zae, zaf, zab, zac, zad => if x8 < x7 then ((pleachref04_Text.f zab zac zad 64).bind fun bt372 => (if zaa > 0 then ((pleachref04_Fix.f bt372.1 bt372.2.1 bt372.2.2.1 32).bind fun bt376 => ((pleachref04_Num.f bt376.1 bt376.2.1 bt376.2.2.1 2147483648).bind fun bt381 => (if zaf.length < 17592186044416 then (if zae.length < 4398046511104 then (pleachref19_Take_p.l0 k x0 x7 (wrap64 (x8 + 1)) zaa (zae ++ [(⟨bt372.2.2.2, bt376.2.2.2⟩ : S43)]) (zaf ++ [bt381.2.2.2]) bt381.1 bt381.2.1 bt381.2.2.1) else (none)) else (none)))) else ((pleachref04_Text.f bt372.1 bt372.2.1 bt372.2.2.1 2048).bind fun bt391 => (if zae.length < 4398046511104 then (pleachref19_Take_p.l0 k x0 x7 (wrap64 (x8 + 1)) zaa (zae ++ [(⟨bt372.2.2.2, bt391.2.2.2⟩ : S43)]) zaf bt391.1 bt391.2.1 bt391.2.2.1) else (none))))) else (if zad = 0 then ((pleachref19_Put.f k zaa zae zaf).bind fun t398 => (if t398.toList = x0.toList then (some (zaa, zae, zaf, true)) else (some (0, ([] : List (S43)), ([] : List Int), false)))) else (some (0, ([] : List (S43)), ([] : List Int), false)))
end
def pleachref19_Take_p.f (k : Nat) (a0 : ByteArray) : Option (Int × (List (S43)) × List Int × Bool) := (pleachref04_Byte.f a0 0 0).bind fun bt358 => (if bt358.2.2.2 = 76 then (pleachref19_Take_p.j0 k a0 0 bt358.1 bt358.2.1 bt358.2.2.1) else ((pleachref04_Num.f bt358.1 bt358.2.1 bt358.2.2.1 40).bind fun bt363 => (pleachref19_Take_p.j0 k a0 bt363.2.2.2 bt363.1 bt363.2.1 bt363.2.2.1)))
theorem pleachref19_Take_p.mono_l : ∀ k, (∀ y0 y1 y2 y3 y4, LeO (pleachref19_Take_p.j0 k y0 y1 y2 y3 y4) (pleachref19_Take_p.j0 (k + 1) y0 y1 y2 y3 y4)) ∧ (∀ y0 y1 y2 y3 y4 y5 y6 y7 y8, LeO (pleachref19_Take_p.l0 k y0 y1 y2 y3 y4 y5 y6 y7 y8) (pleachref19_Take_p.l0 (k + 1) y0 y1 y2 y3 y4 y5 y6 y7 y8))
  | 0 => ⟨fun _ _ _ _ _ r h => by simp [pleachref19_Take_p.j0] at h, fun _ _ _ _ _ _ _ _ _ r h => by simp [pleachref19_Take_p.l0] at h⟩
  | k + 1 => by
    obtain ⟨ih0, ih1⟩ := pleachref19_Take_p.mono_l k
    refine ⟨?_, ?_⟩
    · intro y0 y1 y2 y3 y4
      unfold pleachref19_Take_p.j0
      repeat' first
      | (with_reducible exact ih0 _ _ _ _ _)
      | (with_reducible exact ih1 _ _ _ _ _ _ _ _ _)
      | (with_reducible exact pleachref19_Put.mono _ _ _ _)
      | (with_reducible exact LeO.refl _)
      | (with_reducible exact LeO.none _)
      | (with_reducible refine LeO.ite ?_ ?_)
      | (with_reducible refine LeO.bind ?_ (fun _ => ?_))
      | exact ih0 _ _ _ _ _
      | exact ih1 _ _ _ _ _ _ _ _ _
      | exact pleachref19_Put.mono _ _ _ _
      | exact LeO.none _
      | refine LeO.ite ?_ ?_
      | refine LeO.bind ?_ (fun _ => ?_)
    · intro y0 y1 y2 y3 y4 y5 y6 y7 y8
      unfold pleachref19_Take_p.l0
      repeat' first
      | (with_reducible exact ih0 _ _ _ _ _)
      | (with_reducible exact ih1 _ _ _ _ _ _ _ _ _)
      | (with_reducible exact pleachref19_Put.mono _ _ _ _)
      | (with_reducible exact LeO.refl _)
      | (with_reducible exact LeO.none _)
      | (with_reducible refine LeO.ite ?_ ?_)
      | (with_reducible refine LeO.bind ?_ (fun _ => ?_))
      | exact ih0 _ _ _ _ _
      | exact ih1 _ _ _ _ _ _ _ _ _
      | exact pleachref19_Put.mono _ _ _ _
      | exact LeO.none _
      | refine LeO.ite ?_ ?_
      | refine LeO.bind ?_ (fun _ => ?_)
theorem pleachref19_Take_p.mono : ∀ a0 k, LeO (pleachref19_Take_p.f k a0) (pleachref19_Take_p.f (k + 1) a0) := by
  intro a0 k
  obtain ⟨ih0, ih1⟩ := pleachref19_Take_p.mono_l k
  unfold pleachref19_Take_p.f
  repeat' first
      | (with_reducible exact ih0 _ _ _ _ _)
      | (with_reducible exact ih1 _ _ _ _ _ _ _ _ _)
      | (with_reducible exact pleachref19_Put.mono _ _ _ _)
      | (with_reducible exact LeO.refl _)
      | (with_reducible exact LeO.none _)
      | (with_reducible refine LeO.ite ?_ ?_)
      | (with_reducible refine LeO.bind ?_ (fun _ => ?_))
      | exact ih0 _ _ _ _ _
      | exact ih1 _ _ _ _ _ _ _ _ _
      | exact pleachref19_Put.mono _ _ _ _
      | exact LeO.none _
      | refine LeO.ite ?_ ?_
      | refine LeO.bind ?_ (fun _ => ?_)
set_option maxHeartbeats 8000000 in
set_option maxRecDepth 100000 in
theorem pleachref19_Take_p.calls (k : Nat) (a0 : ByteArray) (r1 : Int) (r2 : List (S43)) (r3 : List Int) (r4 : Bool) (w : World) (h : pleachref19_Take_p.f k a0 = some (r1, r2, r3, r4)) :
    Calls Tryd.prog 15 #[.string a0] w fun e w' => ∃ v1_ v2_ : Value, e = .returned (.tuple #[.agg #[.int .i64 r1, v1_, v2_], .bool r4]) ∧ Kd.R k43 43 w' w.heap.size (fun _ => True) v1_ r2 ∧ Kd.R (Kd.int .i64) 3 w' w.heap.size (fun _ => True) v2_ r3 ∧ Below w.heap.size w w' := by
 have hu39 := Tryd.underlying39
 have hu81 := Tryd.underlying81
 have hu43 := Tryd.underlying43
 have HB := Aside0.mk (Below.refl w.heap.size w)
 have H : ((pleachref04_Byte.f a0 0 0).bind fun bt358 => (if bt358.2.2.2 = 76 then (pleachref19_Take_p.j0 k a0 0 bt358.1 bt358.2.1 bt358.2.2.1) else ((pleachref04_Num.f bt358.1 bt358.2.1 bt358.2.2.1 40).bind fun bt363 => (pleachref19_Take_p.j0 k a0 bt363.2.2.2 bt363.1 bt363.2.1 bt363.2.2.1)))) = some (r1, r2, r3, r4) := h
 clear h
 replace H := Option.bind_eq_some_iff.mp H
 obtain ⟨⟨t358, t359, t360, t361⟩, A20, H⟩ := H
 replace H : (if t361 = 76 then (pleachref19_Take_p.j0 k a0 0 t358 t359 t360) else ((pleachref04_Num.f t358 t359 t360 40).bind fun bt363 => (pleachref19_Take_p.j0 k a0 bt363.2.2.2 bt363.1 bt363.2.1 bt363.2.2.1))) = some (r1, r2, r3, r4) := H
 have A2 := Aside0.mk A20
 clear A20
 have HC3 := Aside0.mk H
 clear H
 go_enter Tryd.func15, Tryd.ntmps15
 go_upto_if 20 with (first | ((with_reducible refine gate_dst (N := 2) rfl ?_); refine M.bx 2 39 (#[.int .i64 0, .slice none 0 0, .slice none 0 0]) ?_; intro zag hg w4 hbox hb; have zah := Aside0.mk (hbox); have zai := M.upG HB hg; have zaj := M.upG HB hg; replace HB := M.upS HB hb; clear hb hbox hg) | ((with_reducible refine gate_dst (N := 4) rfl ?_); refine M.bx 4 39 (#[.int .i64 0, .slice none 0 0, .slice none 0 0]) ?_; intro zak hg w5 hbox hb; have zal := Aside0.mk (hbox); have zam := M.upG HB hg; have zan := M.upG HB hg; replace HB := M.upS HB hb; have zao := M.bkL zah hg; have zap := M.bkG zah hg; replace zah := M.bkB zah hb; clear hb hbox hg) | ((with_reducible refine gate_callee (f := 32) rfl ?_); refine M.goes (some 16) Tryd.func32 #[.agg #[.string a0, .int .i64 0, .int .i64 0]] rfl ?_; (with_reducible refine (pleachref04_Byte.calls a0 0 0 t358 t359 t360 t361 _ A2.out).mono ?_); rintro e w6 ⟨rfl, hb⟩; refine ⟨_, rfl, ?_⟩; replace zah := M.bkB zah hb; replace zal := M.bkB zal hb; replace HB := M.upS HB hb; (try clear hb)) | ((with_reducible refine gate_dst (N := 5) rfl ?_); refine M.bx 5 81 (#[.string (⟨#[]⟩ : ByteArray), .int .i64 0, .int .i64 0]) ?_; intro zaq hg w7 hbox hb; have zar := Aside0.mk (hbox); have zas := M.upG HB hg; have zat := M.upG HB hg; replace HB := M.upS HB hb; have zau := M.bkL zah hg; have zav := M.bkG zah hg; replace zah := M.bkB zah hb; have zaw := M.bkL zal hg; have zax := M.bkG zal hg; replace zal := M.bkB zal hb; clear hb hbox hg; have zay := zav.out; have zaz := zau.out; have zaA := zax.out; have zaB := zaw.out; obtain ⟨zaC, zaD, zaE⟩ := M.bc3 (w := w7) (a := .string (⟨#[]⟩ : ByteArray)) (b := .int .i64 0) (c := .int .i64 0) zar.out; obtain ⟨zaF, zaG, zaH⟩ := M.bf3 zar))
 (try simp only [Act.put, List.setIfInBounds_toArray, List.set_cons_zero, List.set_cons_succ])
 go_cut [] (fun wc => ∃ (kq : Nat) (zaI : Int) (zaJ : ByteArray) (zaK : Int) (zaL : Int), Aside0 (pleachref19_Take_p.j0 kq a0 zaI zaJ zaK zaL = some (r1, r2, r3, r4)) ∧ Aside0 (kq ≤ k) ∧ Aside0 (wc.heap[zag]? = some (.cells #[.int .i64 0, (.slice none 0 0), (.slice none 0 0)] 39 (0, 0))) ∧ Aside0 (wc.heap[zak]? = some (.cells #[.int .i64 zaI, (.slice none 0 0), (.slice none 0 0)] 39 (0, 0))) ∧ Aside0 (wc.heap[zaq]? = some (.cells #[.string zaJ, .int .i64 zaK, .int .i64 zaL] 81 (0, 0))) ∧ Aside0 (Below w.heap.size w wc))
 case first =>
  have H := HC3.out
  clear HC3
  by_cases c11 : t361 = 76
  ·rw [if_pos c11] at H
   have c11b0 : (t361 == 76) = true := beq_iff_eq.mpr c11
   have c11b1 : (t361 != 76) = false := bne_eq_false_iff_eq.mpr c11
   clear c11
   (first | rw [c11b0] | (simp only [i64_w, i32_w]; rw [c11b0]) | skip)
   have H' := Aside0.mk H
   clear H
   go_wp2
   go_meet
   case rel => exact ⟨_, (0), (t358), (t359), (t360), H', ⟨by first | omega | exact Nat.le_refl _⟩, ⟨by refine M.fr ?_ zau; refine M.fr ?_ zau; refine M.fr ?_ zau; exact M.bk zah⟩, ⟨by refine M.fr ?_ zaw; refine M.fr ?_ zaw; refine M.fr ?_ zaw; exact M.bk zal⟩, ⟨by refine M.fp (cs := #[.string t358, .int .i64 t359, .int .i64 0]) ?_ 2; refine M.fp (cs := #[.string t358, .int .i64 0, .int .i64 0]) ?_ 1; refine M.fp (cs := #[.string (⟨#[]⟩ : ByteArray), .int .i64 0, .int .i64 0]) ?_ 0; exact M.bk zar⟩, ⟨M.up HB⟩⟩
  ·rw [if_neg c11] at H
   have c11b0 : (t361 == 76) = false := beq_eq_false_iff_ne.mpr c11
   have c11b1 : (t361 != 76) = true := bne_iff_ne.mpr c11
   (first | rw [c11b0] | (simp only [i64_w, i32_w]; rw [c11b0]) | skip)
   replace H := Option.bind_eq_some_iff.mp H
   obtain ⟨⟨t363, t364, t365, t366⟩, A120, H⟩ := H
   replace H : (pleachref19_Take_p.j0 k a0 t366 t363 t364 t365) = some (r1, r2, r3, r4) := H
   have A12 := Aside0.mk A120
   clear A120
   have H' := Aside0.mk H
   clear H
   have zaM := zav.out
   have zaN := zau.out
   have zaO := zax.out
   have zaP := zaw.out
   obtain ⟨zaQ, zaR, zaS⟩ := M.bc3 (w := w7) (a := .string (⟨#[]⟩ : ByteArray)) (b := .int .i64 0) (c := .int .i64 0) zar.out
   obtain ⟨zaT, zaU, zaV⟩ := M.bf3 zar
   go_wp2_with (first | ((with_reducible refine gate_callee (f := 33) rfl ?_); refine M.goes (some 23) Tryd.func33 #[.agg #[.string t358, .int .i64 t359, .int .i64 t360], .int .i64 40] rfl ?_; (with_reducible refine (pleachref04_Num.calls t358 t359 t360 40 t363 t364 t365 t366 _ A12.out).mono ?_); rintro e w16 ⟨rfl, hb⟩; refine ⟨_, rfl, ?_⟩; replace zah := Aside0.mk (blk_below (g := zag) (o := .cells #[.int .i64 0, .slice none 0 0, .slice none 0 0] 39 (0, 0)) (by refine M.fr ?_ zau; refine M.fr ?_ zau; refine M.fr ?_ zau; exact M.bk zah) hb); replace zal := Aside0.mk (blk_below (g := zak) (o := .cells #[.int .i64 0, .slice none 0 0, .slice none 0 0] 39 (0, 0)) (by refine M.fr ?_ zaw; refine M.fr ?_ zaw; refine M.fr ?_ zaw; exact M.bk zal) hb); replace zar := Aside0.mk (blk_below (g := zaq) (o := .cells #[.string t358, .int .i64 t359, .int .i64 t360] 81 (0, 0)) (by refine M.fp (cs := #[.string t358, .int .i64 t359, .int .i64 0]) ?_ 2; refine M.fp (cs := #[.string t358, .int .i64 0, .int .i64 0]) ?_ 1; refine M.fp (cs := #[.string (⟨#[]⟩ : ByteArray), .int .i64 0, .int .i64 0]) ?_ 0; exact M.bk zar) hb); replace HB := M.upS HB hb; (try clear hb); obtain ⟨zaW, zaX, zaY⟩ := M.bc3 (w := w16) (a := .string t358) (b := .int .i64 t359) (c := .int .i64 t360) zar.out; obtain ⟨zaZ, za0, za1⟩ := M.bf3 zar; have za2 := zap.out; have za3 := zao.out; obtain ⟨za4, za5, za6⟩ := M.bc3 (w := w16) (a := .int .i64 0) (b := .slice none 0 0) (c := .slice none 0 0) zal.out; obtain ⟨za7, za8, za9⟩ := M.bf3 zal))
   go_meet
   case rel => exact ⟨_, (t366), (t363), (t364), (t365), H', ⟨by first | omega | exact Nat.le_refl _⟩, ⟨by refine M.fr ?_ zao; refine M.fr ?_ zau; refine M.fr ?_ zau; refine M.fr ?_ zau; exact M.bk zah⟩, ⟨by refine M.fp (cs := #[.int .i64 0, .slice none 0 0, .slice none 0 0]) ?_ 0; refine M.fr ?_ zaw; refine M.fr ?_ zaw; refine M.fr ?_ zaw; exact M.bk zal⟩, ⟨by refine M.fr ?_ zax; refine M.fp (cs := #[.string t363, .int .i64 t364, .int .i64 t360]) ?_ 2; refine M.fp (cs := #[.string t363, .int .i64 t359, .int .i64 t360]) ?_ 1; refine M.fp (cs := #[.string t358, .int .i64 t359, .int .i64 t360]) ?_ 0; exact M.bk zar⟩, ⟨M.up HB⟩⟩
 case rest =>
  clear HC3
  (try clear c1); (try clear p2); (try clear c3); (try clear c8); (try clear c9); (try clear c11); (try clear c11b0); (try clear c11b1); (try clear c13); (try clear c14); (try clear c15); (try clear c18); (try clear zaC); (try clear zaD); (try clear zaE); (try clear zaQ); (try clear zaR); (try clear zaS); (try clear zaW); (try clear zaX); (try clear zaY); (try clear za4); (try clear za5); (try clear za6); (try clear zaF); (try clear zaG); (try clear zaH); (try clear zaT); (try clear zaU); (try clear zaV); (try clear zaZ); (try clear za0); (try clear za1); (try clear za7); (try clear za8); (try clear za9)
  obtain ⟨kq, zaI, zaJ, zaK, zaL, HA, HJ2, zah, zal, zar, HB⟩ := hcut
  cases kq with
  | zero => exact absurd HA.out (by simp [pleachref19_Take_p.j0])
  | succ kj2 =>
   have H := HA.out
   clear HA
   simp only [pleachref19_Take_p.j0] at H
   replace H := Option.bind_eq_some_iff.mp H
   obtain ⟨⟨t367, t368, t369, t370⟩, A200, H⟩ := H
   replace H : (pleachref19_Take_p.l0 kj2 a0 t370 0 zaI ([] : List (S43)) ([] : List Int) t367 t368 t369) = some (r1, r2, r3, r4) := H
   have A20 := Aside0.mk A200
   clear A200
   have H' := Aside0.mk H
   clear H
   have zba := zav.out
   have zbb := zau.out
   have zbc := zax.out
   have zbd := zaw.out
   obtain ⟨zbe, zbf, zbg⟩ := M.bc3 (w := wc) (a := .string zaJ) (b := .int .i64 zaK) (c := .int .i64 zaL) zar.out
   obtain ⟨zbh, zbi, zbj⟩ := M.bf3 zar
   go_wp2_with (first | ((with_reducible refine gate_callee (f := 33) rfl ?_); refine M.goes (some 29) Tryd.func33 #[.agg #[.string zaJ, .int .i64 zaK, .int .i64 zaL], .int .i64 8] rfl ?_; (with_reducible refine (pleachref04_Num.calls zaJ zaK zaL 8 t367 t368 t369 t370 _ A20.out).mono ?_); rintro e w24 ⟨rfl, hb⟩; refine ⟨_, rfl, ?_⟩; replace zah := M.bkB zah hb; replace zal := M.bkB zal hb; replace zar := M.bkB zar hb; replace HB := M.upS HB hb; (try clear hb); obtain ⟨zbk, zbl, zbm⟩ := M.bc3 (w := w24) (a := .string zaJ) (b := .int .i64 zaK) (c := .int .i64 zaL) zar.out; obtain ⟨zbn, zbo, zbp⟩ := M.bf3 zar))
   go_loopg [8] kj2 (fun kq v8 w' => ∃ (x8_2 : Int) (zbq : List (S43)) (zbr : List Int) (zaJ : ByteArray) (zaK : Int) (zaL : Int) (zbs : Value) (zbt : Value), v8 = .int .i64 x8_2 ∧ Aside0 (pleachref19_Take_p.l0 kq a0 t370 x8_2 zaI zbq zbr zaJ zaK zaL = some (r1, r2, r3, r4)) ∧ Aside0 (kq ≤ kj2) ∧ Aside0 (Kd.R k43 43 w' w.heap.size (fun _ => True) zbs zbq) ∧ Aside0 (Kd.R (Kd.int .i64) 3 w' w.heap.size (fun _ => True) zbt zbr) ∧ Aside0 (w'.heap[zag]? = some (.cells #[.int .i64 0, (.slice none 0 0), (.slice none 0 0)] 39 (0, 0))) ∧ Aside0 (w'.heap[zak]? = some (.cells #[.int .i64 zaI, zbs, zbt] 39 (0, 0))) ∧ Aside0 (w'.heap[zaq]? = some (.cells #[.string zaJ, .int .i64 zaK, .int .i64 zaL] 81 (0, 0))) ∧ Aside0 (Below w.heap.size w w'))
   case atStart => exact ⟨(0), (([] : List (S43))), (([] : List Int)), (t367), (t368), (t369), (.slice none 0 0), (.slice none 0 0), M.eqv, H', ⟨Nat.le_refl _⟩, ⟨M.nl⟩, ⟨M.nl⟩, ⟨by refine M.fr ?_ zau; refine M.fr ?_ zau; refine M.fr ?_ zau; exact M.bk zah⟩, ⟨by refine M.fr ?_ zaw; refine M.fr ?_ zaw; refine M.fr ?_ zaw; exact M.bk zal⟩, ⟨by refine M.fp (cs := #[.string t367, .int .i64 t368, .int .i64 zaL]) ?_ 2; refine M.fp (cs := #[.string t367, .int .i64 zaK, .int .i64 zaL]) ?_ 1; refine M.fp (cs := #[.string zaJ, .int .i64 zaK, .int .i64 zaL]) ?_ 0; exact M.bk zar⟩, ⟨M.up HB⟩⟩
   case round =>
    clear H'
    (try clear c1); (try clear c2); (try clear p2); (try clear c3); (try clear c8); (try clear c9); (try clear c11); (try clear c11b0); (try clear c11b1); (try clear c13); (try clear c14); (try clear c15); (try clear c18); (try clear c21); (try clear c22); (try clear zaC); (try clear zaD); (try clear zaE); (try clear zaQ); (try clear zaR); (try clear zaS); (try clear zaW); (try clear zaX); (try clear zaY); (try clear za4); (try clear za5); (try clear za6); (try clear zbe); (try clear zbf); (try clear zbg); (try clear zbk); (try clear zbl); (try clear zbm); (try clear zaF); (try clear zaG); (try clear zaH); (try clear zaT); (try clear zaU); (try clear zaV); (try clear zaZ); (try clear za0); (try clear za1); (try clear za7); (try clear za8); (try clear za9); (try clear zbh); (try clear zbi); (try clear zbj); (try clear zbn); (try clear zbo); (try clear zbp); (try clear p2)
    obtain ⟨x8_2, zbq, zbr, zaJ, zaK, zaL, zbs, zbt, rfl, HA, HK2, zbu, zbv, zah, zal, zar, HB⟩ := hrel
    cases gk with
    | zero => exact absurd HA.out (by simp [pleachref19_Take_p.l0])
    | succ k2 =>
     have H := HA.out
     clear HA
     simp only [pleachref19_Take_p.l0] at H
     by_cases c26 : x8_2 < t370
     ·rw [if_pos c26] at H
      have c26b0 := decide_eq_true c26
      clear c26
      replace H := Option.bind_eq_some_iff.mp H
      obtain ⟨⟨t372, t373, t374, t375⟩, A270, H⟩ := H
      replace H : (if zaI > 0 then ((pleachref04_Fix.f t372 t373 t374 32).bind fun bt376 => ((pleachref04_Num.f bt376.1 bt376.2.1 bt376.2.2.1 2147483648).bind fun bt381 => (if zbr.length < 17592186044416 then (if zbq.length < 4398046511104 then (pleachref19_Take_p.l0 k2 a0 t370 (wrap64 (x8_2 + 1)) zaI (zbq ++ [(⟨t375, bt376.2.2.2⟩ : S43)]) (zbr ++ [bt381.2.2.2]) bt381.1 bt381.2.1 bt381.2.2.1) else (none)) else (none)))) else ((pleachref04_Text.f t372 t373 t374 2048).bind fun bt391 => (if zbq.length < 4398046511104 then (pleachref19_Take_p.l0 k2 a0 t370 (wrap64 (x8_2 + 1)) zaI (zbq ++ [(⟨t375, bt391.2.2.2⟩ : S43)]) zbr bt391.1 bt391.2.1 bt391.2.2.1) else (none)))) = some (r1, r2, r3, r4) := H
      have A27 := Aside0.mk A270
      clear A270
      by_cases c28 : zaI > 0
      ·rw [if_pos c28] at H
       have c28b0 := decide_eq_true c28
       clear c28
       replace H := Option.bind_eq_some_iff.mp H
       obtain ⟨⟨t376, t377, t378, t379⟩, A290, H⟩ := H
       replace H : ((pleachref04_Num.f t376 t377 t378 2147483648).bind fun bt381 => (if zbr.length < 17592186044416 then (if zbq.length < 4398046511104 then (pleachref19_Take_p.l0 k2 a0 t370 (wrap64 (x8_2 + 1)) zaI (zbq ++ [(⟨t375, t379⟩ : S43)]) (zbr ++ [bt381.2.2.2]) bt381.1 bt381.2.1 bt381.2.2.1) else (none)) else (none))) = some (r1, r2, r3, r4) := H
       have A29 := Aside0.mk A290
       clear A290
       replace H := Option.bind_eq_some_iff.mp H
       obtain ⟨⟨t381, t382, t383, t384⟩, A300, H⟩ := H
       replace H : (if zbr.length < 17592186044416 then (if zbq.length < 4398046511104 then (pleachref19_Take_p.l0 k2 a0 t370 (wrap64 (x8_2 + 1)) zaI (zbq ++ [(⟨t375, t379⟩ : S43)]) (zbr ++ [t384]) t381 t382 t383) else (none)) else (none)) = some (r1, r2, r3, r4) := H
       have A30 := Aside0.mk A300
       clear A300
       by_cases c31 : zbr.length < 17592186044416
       ·rw [if_pos c31] at H
        have LMc31 := Aside0.mk c31
        clear c31
        obtain ⟨y385, hy385⟩ : ∃ y_ : List Int, y_ = (zbr ++ [t384]) := ⟨_, rfl⟩
        replace H : (if zbq.length < 4398046511104 then (pleachref19_Take_p.l0 k2 a0 t370 (wrap64 (x8_2 + 1)) zaI (zbq ++ [(⟨t375, t379⟩ : S43)]) y385 t381 t382 t383) else (none)) = some (r1, r2, r3, r4) := by first | (rw [hy385]; with_reducible exact H) | (have H2_ := (Option.bind_some _ _).symm.trans H; rw [hy385]; with_reducible exact H2_) | (have H2_ := (Option.bind_some _ _).symm.trans H; with_reducible exact H2_) | with_reducible exact H | (rw [hy385]; exact H) | exact H
        have Ny385 := Aside0.mk hy385
        clear hy385
        by_cases c32 : zbq.length < 4398046511104
        ·rw [if_pos c32] at H
         have LMc32 := Aside0.mk c32
         clear c32
         obtain ⟨y388, hy388⟩ : ∃ y_ : List (S43), y_ = (zbq ++ [(⟨t375, t379⟩ : S43)]) := ⟨_, rfl⟩
         replace H : (pleachref19_Take_p.l0 k2 a0 t370 (wrap64 (x8_2 + 1)) zaI y388 y385 t381 t382 t383) = some (r1, r2, r3, r4) := by first | (rw [hy388]; with_reducible exact H) | (have H2_ := (Option.bind_some _ _).symm.trans H; rw [hy388]; with_reducible exact H2_) | (have H2_ := (Option.bind_some _ _).symm.trans H; with_reducible exact H2_) | with_reducible exact H | (rw [hy388]; exact H) | exact H
         have Ny388 := Aside0.mk hy388
         clear hy388
         have H' := Aside0.mk H
         clear H
         go_wp2_with (first | ((with_reducible refine gate_dst (N := 9) rfl ?_); refine M.bx 9 43 (#[.string (⟨#[]⟩ : ByteArray), .string (⟨#[]⟩ : ByteArray)]) ?_; intro zbw hg w33 hbox hb; replace zbu := Aside0.mk (Kd.R_below (Kd.R_elderB (M.ro zbu) zbw (Nat.le_of_eq hg.symm)) hb); replace zbv := M.roB zbv hb; have zbx := Aside0.mk (hbox); have zby := M.upG HB hg; have zbz := M.upG HB hg; replace HB := M.upS HB hb; have zbA := M.bkL zah hg; have zbB := M.bkG zah hg; replace zah := M.bkB zah hb; have zbC := M.bkL zal hg; have zbD := M.bkG zal hg; replace zal := M.bkB zal hb; have zbE := M.bkL zar hg; have zbF := M.bkG zar hg; replace zar := M.bkB zar hb; clear hb hbox hg; have zbG := zav.out; have zbH := zau.out; have zbI := zax.out; have zbJ := zaw.out; have zbK := zbE.out; have zbL := zbF.out; obtain ⟨zbM, zbN, zbO⟩ := M.bc3 (w := w33) (a := .string zaJ) (b := .int .i64 zaK) (c := .int .i64 zaL) zar.out; obtain ⟨zbP, zbQ, zbR⟩ := M.bf3 zar) | ((with_reducible refine gate_callee (f := 34) rfl ?_); refine M.goes (some 39) Tryd.func34 #[.agg #[.string zaJ, .int .i64 zaK, .int .i64 zaL], .int .i64 64] rfl ?_; (with_reducible refine (pleachref04_Text.calls zaJ zaK zaL 64 t372 t373 t374 t375 _ A27.out).mono ?_); rintro e w38 ⟨rfl, hb⟩; refine ⟨_, rfl, ?_⟩; replace zbu := M.roB zbu hb; replace zbv := M.roB zbv hb; replace zah := M.bkB zah hb; replace zal := M.bkB zal hb; replace zar := M.bkB zar hb; replace zbx := M.bkB zbx hb; replace HB := M.upS HB hb; (try clear hb); obtain ⟨zbS, zbT, zbU⟩ := M.bc3 (w := w38) (a := .string zaJ) (b := .int .i64 zaK) (c := .int .i64 zaL) zar.out; obtain ⟨zbV, zbW, zbX⟩ := M.bf3 zar; have zbY := zbB.out; have zbZ := zbA.out; have zb0 := zbD.out; have zb1 := zbC.out; obtain ⟨zb2, zb3⟩ := M.bc2 (w := w38) (a := .string (⟨#[]⟩ : ByteArray)) (b := .string (⟨#[]⟩ : ByteArray)) zbx.out; obtain ⟨zb4, zb5⟩ := M.bf2 zbx; have zb6 := zap.out; have zb7 := zao.out; obtain ⟨zb8, zb9, zca⟩ := M.bc3 (w := w38) (a := .int .i64 zaI) (b := zbs) (c := zbt) zal.out; obtain ⟨zcb, zcc, zcd⟩ := M.bf3 zal) | ((with_reducible refine gate_callee (f := 35) rfl ?_); refine M.goes (some 48) Tryd.func35 #[.agg #[.string t372, .int .i64 t373, .int .i64 t374], .int .i64 32] rfl ?_; (with_reducible refine (pleachref04_Fix.calls t372 t373 t374 32 t376 t377 t378 t379 _ A29.out).mono ?_); rintro e w45 ⟨rfl, hb⟩; refine ⟨_, rfl, ?_⟩; replace zbu := Aside0.mk (Kd.R_below (by (with_reducible repeat (first | apply Kd.R_alloc | apply Kd.R_drewN | apply Kd.R_drew)); exact (Kd.R_mono (Kd.R_mono (Kd.R_far (p := ⟨zbw, 0, none⟩) (Kd.R_far (p := ⟨zaq, 2, none⟩) (Kd.R_far (p := ⟨zaq, 1, none⟩) (Kd.R_far (p := ⟨zaq, 0, none⟩) (Kd.R_mono (Kd.R_types zbu.out zar.out (by decide)) (fun k_ hk => (⟨hk, hk.1.2⟩ : _ ∧ k_ ≠ zbw))) (fun _ hk => hk.1.2) (.string t372)) (fun _ hk => hk.1.2) (.int .i64 t373)) (fun _ hk => hk.1.2) (.int .i64 t374)) (fun _ hk => hk.2) (.string t375)) (fun _ h_ => h_.1)) (fun _ h_ => h_.1))) hb); replace zbv := Aside0.mk (Kd.R_below (by (with_reducible repeat (first | apply Kd.R_alloc | apply Kd.R_drewN | apply Kd.R_drew)); exact (Kd.R_mono (Kd.R_mono (Kd.R_far (p := ⟨zbw, 0, none⟩) (Kd.R_far (p := ⟨zaq, 2, none⟩) (Kd.R_far (p := ⟨zaq, 1, none⟩) (Kd.R_far (p := ⟨zaq, 0, none⟩) (Kd.R_types (Kd.R_types zbv.out zar.out (by decide)) zbx.out (by decide)) (fun _ hk => hk.1.2) (.string t372)) (fun _ hk => hk.1.2) (.int .i64 t373)) (fun _ hk => hk.1.2) (.int .i64 t374)) (fun _ hk => hk.2) (.string t375)) (fun _ h_ => h_.1)) (fun _ h_ => h_.1))) hb); replace zah := Aside0.mk (blk_below (g := zag) (o := .cells #[.int .i64 0, .slice none 0 0, .slice none 0 0] 39 (0, 0)) (by refine M.fr ?_ zbA; refine M.fr ?_ zau; refine M.fr ?_ zau; refine M.fr ?_ zau; exact M.bk zah) hb); replace zal := Aside0.mk (blk_below (g := zak) (o := .cells #[.int .i64 zaI, zbs, zbt] 39 (0, 0)) (by refine M.fr ?_ zbC; refine M.fr ?_ zaw; refine M.fr ?_ zaw; refine M.fr ?_ zaw; exact M.bk zal) hb); replace zar := Aside0.mk (blk_below (g := zaq) (o := .cells #[.string t372, .int .i64 t373, .int .i64 t374] 81 (0, 0)) (by refine M.fr ?_ zbE; refine M.fp (cs := #[.string t372, .int .i64 t373, .int .i64 zaL]) ?_ 2; refine M.fp (cs := #[.string t372, .int .i64 zaK, .int .i64 zaL]) ?_ 1; refine M.fp (cs := #[.string zaJ, .int .i64 zaK, .int .i64 zaL]) ?_ 0; exact M.bk zar) hb); replace zbx := Aside0.mk (blk_below (g := zbw) (o := .cells #[.string t375, .string (⟨#[]⟩ : ByteArray)] 43 (0, 0)) (by refine M.fp (cs := #[.string (⟨#[]⟩ : ByteArray), .string (⟨#[]⟩ : ByteArray)]) ?_ 0; refine M.fr ?_ zbF; refine M.fr ?_ zbF; refine M.fr ?_ zbF; exact M.bk zbx) hb); replace HB := M.upS HB hb; (try clear hb)) | ((with_reducible refine gate_dst (N := 10) rfl ?_); refine M.bx 10 81 (#[.string (⟨#[]⟩ : ByteArray), .int .i64 0, .int .i64 0]) ?_; intro zce hg w46 hbox hb; replace zbu := M.roB zbu hb; replace zbv := M.roB zbv hb; have zcf := Aside0.mk (hbox); have zcg := M.upG HB hg; have zch := M.upG HB hg; replace HB := M.upS HB hb; have zci := M.bkL zah hg; have zcj := M.bkG zah hg; replace zah := M.bkB zah hb; have zck := M.bkL zal hg; have zcl := M.bkG zal hg; replace zal := M.bkB zal hb; have zcm := M.bkL zar hg; have zcn := M.bkG zar hg; replace zar := M.bkB zar hb; have zco := M.bkL zbx hg; have zcp := M.bkG zbx hg; replace zbx := M.bkB zbx hb; clear hb hbox hg; have zcq := zcj.out; have zcr := zci.out; have zcs := zcl.out; have zct := zck.out; have zcu := zcn.out; have zcv := zcm.out; have zcw := zcp.out; have zcx := zco.out; obtain ⟨zcy, zcz, zcA⟩ := M.bc3 (w := w46) (a := .string (⟨#[]⟩ : ByteArray)) (b := .int .i64 0) (c := .int .i64 0) zcf.out; obtain ⟨zcB, zcC, zcD⟩ := M.bf3 zcf) | ((with_reducible refine gate_callee (f := 33) rfl ?_); refine M.goes (some 53) Tryd.func33 #[.agg #[.string t376, .int .i64 t377, .int .i64 t378], .int .i64 2147483648] rfl ?_; (with_reducible refine (pleachref04_Num.calls t376 t377 t378 2147483648 t381 t382 t383 t384 _ A30.out).mono ?_); rintro e w52 ⟨rfl, hb⟩; refine ⟨_, rfl, ?_⟩; replace zbu := Aside0.mk (Kd.R_below (by (with_reducible repeat (first | apply Kd.R_alloc | apply Kd.R_drewN | apply Kd.R_drew)); exact (Kd.R_mono (Kd.R_far (p := ⟨zce, 2, none⟩) (Kd.R_far (p := ⟨zce, 1, none⟩) (Kd.R_far (p := ⟨zce, 0, none⟩) (Kd.R_types zbu.out zcf.out (by decide)) (fun _ hk => hk.2) (.string t376)) (fun _ hk => hk.2) (.int .i64 t377)) (fun _ hk => hk.2) (.int .i64 t378)) (fun _ h_ => h_.1))) hb); replace zbv := Aside0.mk (Kd.R_below (by (with_reducible repeat (first | apply Kd.R_alloc | apply Kd.R_drewN | apply Kd.R_drew)); exact (Kd.R_mono (Kd.R_far (p := ⟨zce, 2, none⟩) (Kd.R_far (p := ⟨zce, 1, none⟩) (Kd.R_far (p := ⟨zce, 0, none⟩) (Kd.R_types zbv.out zcf.out (by decide)) (fun _ hk => hk.2) (.string t376)) (fun _ hk => hk.2) (.int .i64 t377)) (fun _ hk => hk.2) (.int .i64 t378)) (fun _ h_ => h_.1))) hb); replace zah := Aside0.mk (blk_below (g := zag) (o := .cells #[.int .i64 0, .slice none 0 0, .slice none 0 0] 39 (0, 0)) (by refine M.fr ?_ zci; refine M.fr ?_ zci; refine M.fr ?_ zci; exact M.bk zah) hb); replace zal := Aside0.mk (blk_below (g := zak) (o := .cells #[.int .i64 zaI, zbs, zbt] 39 (0, 0)) (by refine M.fr ?_ zck; refine M.fr ?_ zck; refine M.fr ?_ zck; exact M.bk zal) hb); replace zar := Aside0.mk (blk_below (g := zaq) (o := .cells #[.string t372, .int .i64 t373, .int .i64 t374] 81 (0, 0)) (by refine M.fr ?_ zcm; refine M.fr ?_ zcm; refine M.fr ?_ zcm; exact M.bk zar) hb); replace zbx := Aside0.mk (blk_below (g := zbw) (o := .cells #[.string t375, .string (⟨#[]⟩ : ByteArray)] 43 (0, 0)) (by refine M.fr ?_ zco; refine M.fr ?_ zco; refine M.fr ?_ zco; exact M.bk zbx) hb); replace zcf := Aside0.mk (blk_below (g := zce) (o := .cells #[.string t376, .int .i64 t377, .int .i64 t378] 81 (0, 0)) (by refine M.fp (cs := #[.string t376, .int .i64 t377, .int .i64 0]) ?_ 2; refine M.fp (cs := #[.string t376, .int .i64 0, .int .i64 0]) ?_ 1; refine M.fp (cs := #[.string (⟨#[]⟩ : ByteArray), .int .i64 0, .int .i64 0]) ?_ 0; exact M.bk zcf) hb); replace HB := M.upS HB hb; (try clear hb); obtain ⟨zcE, zcF, zcG⟩ := M.bc3 (w := w52) (a := .string t376) (b := .int .i64 t377) (c := .int .i64 t378) zcf.out; obtain ⟨zcH, zcI, zcJ⟩ := M.bf3 zcf; obtain ⟨zcK, zcL, zcM⟩ := M.bc3 (w := w52) (a := .string t372) (b := .int .i64 t373) (c := .int .i64 t374) zar.out; obtain ⟨zcN, zcO, zcP⟩ := M.bf3 zar; obtain ⟨zcQ, zcR⟩ := M.bc2 (w := w52) (a := .string t375) (b := .string (⟨#[]⟩ : ByteArray)) zbx.out; obtain ⟨zcS, zcT⟩ := M.bf2 zbx; obtain ⟨zcU, zcV, zcW⟩ := M.bc3 (w := w52) (a := .int .i64 zaI) (b := zbs) (c := zbt) zal.out; obtain ⟨zcX, zcY, zcZ⟩ := M.bf3 zal) | ((with_reducible refine gate_builtin (b := .append) (xs := #[.tmp 60, .tmp 62]) rfl ?_); at_builtin; refine Kd.R_append (Kd.int .i64) (w0 := w) w.heap.size rfl (.tmp 60) (.tmp 62) 37 3 (.int .i64 0) 8 rfl Tryd.underlying37 info3 rfl (by decide) (by omega) zbt zbr t384 [.int .i64 t384] (fun _ => True) (fun _ => False) rfl (by first | (go_simp; done) | (go_simp; rfl)) ?aP (fun _ hk => hk.elim) ?aF ?aO ?aB ?aS ?aL ?_; (case aP => exact rfl); (case aB => exact (M.up HB)); (case aF => exact (fun _ _ => trivial)); (case aO => exact (by (with_reducible repeat (first | apply Kd.R_alloc | apply Kd.R_drewN | apply Kd.R_drew)); exact Kd.R_mono (Kd.R_far (p := ⟨zbw, 1, none⟩) (Kd.R_far (p := ⟨zaq, 2, none⟩) (Kd.R_far (p := ⟨zaq, 1, none⟩) (Kd.R_far (p := ⟨zaq, 0, none⟩) (Kd.R_far (p := ⟨zce, 2, none⟩) (Kd.R_far (p := ⟨zce, 1, none⟩) (Kd.R_far (p := ⟨zce, 0, none⟩) (Kd.R_types (Kd.R_types (Kd.R_types zbv.out zcf.out (by decide)) zar.out (by decide)) zbx.out (by decide)) (fun _ hk => hk.1.1.2) (.string t381)) (fun _ hk => hk.1.1.2) (.int .i64 t382)) (fun _ hk => hk.1.1.2) (.int .i64 t383)) (fun _ hk => hk.1.2) (.string t381)) (fun _ hk => hk.1.2) (.int .i64 t382)) (fun _ hk => hk.1.2) (.int .i64 t383)) (fun _ hk => hk.2) (.string t379)) (fun _ hk => trivial))); (case aS => exact (below_size (M.up HB))); (case aL => have := LMc31.out; omega); intro v386 w57 ho hb hg hat; rw [← Ny385.out] at ho; replace zbu := Aside0.mk (Kd.R_over' (by (with_reducible repeat (first | apply Kd.R_alloc | apply Kd.R_drewN | apply Kd.R_drew)); exact (Kd.R_mono (Kd.R_mono (Kd.R_mono (Kd.R_far (p := ⟨zbw, 1, none⟩) (Kd.R_far (p := ⟨zaq, 2, none⟩) (Kd.R_far (p := ⟨zaq, 1, none⟩) (Kd.R_far (p := ⟨zaq, 0, none⟩) (Kd.R_far (p := ⟨zce, 2, none⟩) (Kd.R_far (p := ⟨zce, 1, none⟩) (Kd.R_far (p := ⟨zce, 0, none⟩) (Kd.R_mono (Kd.R_types (Kd.R_types zbu.out zcf.out (by decide)) zar.out (by decide)) (fun k_ hk => (⟨hk, hk.1.1.2⟩ : _ ∧ k_ ≠ zbw))) (fun _ hk => hk.1.1.2) (.string t381)) (fun _ hk => hk.1.1.2) (.int .i64 t382)) (fun _ hk => hk.1.1.2) (.int .i64 t383)) (fun _ hk => hk.1.2) (.string t381)) (fun _ hk => hk.1.2) (.int .i64 t382)) (fun _ hk => hk.1.2) (.int .i64 t383)) (fun _ hk => hk.2) (.string t379)) (fun _ h_ => h_.1)) (fun _ h_ => h_.1)) (fun _ h_ => h_.1))) (Kd.R_typed (by (with_reducible repeat (first | apply Kd.R_alloc | apply Kd.R_drewN | apply Kd.R_drew)); exact (Kd.R_mono (Kd.R_mono (Kd.R_mono (Kd.R_far (p := ⟨zbw, 1, none⟩) (Kd.R_far (p := ⟨zaq, 2, none⟩) (Kd.R_far (p := ⟨zaq, 1, none⟩) (Kd.R_far (p := ⟨zaq, 0, none⟩) (Kd.R_far (p := ⟨zce, 2, none⟩) (Kd.R_far (p := ⟨zce, 1, none⟩) (Kd.R_far (p := ⟨zce, 0, none⟩) (Kd.R_types (Kd.R_types (Kd.R_types zbv.out zcf.out (by decide)) zar.out (by decide)) zbx.out (by decide)) (fun _ hk => hk.1.1.2) (.string t381)) (fun _ hk => hk.1.1.2) (.int .i64 t382)) (fun _ hk => hk.1.1.2) (.int .i64 t383)) (fun _ hk => hk.1.2) (.string t381)) (fun _ hk => hk.1.2) (.int .i64 t382)) (fun _ hk => hk.1.2) (.int .i64 t383)) (fun _ hk => hk.2) (.string t379)) (fun _ h_ => h_.1)) (fun _ h_ => h_.1)) (fun _ h_ => h_.1)))) (by decide) hg); replace zah := Aside0.mk (blk_grown (g := zag) (o := .cells #[.int .i64 0, .slice none 0 0, .slice none 0 0] 39 (0, 0)) (by refine M.fr ?_ zbA; refine M.fr ?_ zau; refine M.fr ?_ zau; refine M.fr ?_ zau; refine M.fr ?_ zci; refine M.fr ?_ zci; refine M.fr ?_ zci; exact M.bk zah) hg (Kd.R_ne zbv.out zah.out (by decide))); replace zal := Aside0.mk (blk_grown (g := zak) (o := .cells #[.int .i64 zaI, zbs, zbt] 39 (0, 0)) (by refine M.fr ?_ zbC; refine M.fr ?_ zaw; refine M.fr ?_ zaw; refine M.fr ?_ zaw; refine M.fr ?_ zck; refine M.fr ?_ zck; refine M.fr ?_ zck; exact M.bk zal) hg (Kd.R_ne zbv.out zal.out (by decide))); replace zar := Aside0.mk (blk_grown (g := zaq) (o := .cells #[.string t381, .int .i64 t382, .int .i64 t383] 81 (0, 0)) (by refine M.fr ?_ zbE; refine M.fp (cs := #[.string t381, .int .i64 t382, .int .i64 t374]) ?_ 2; refine M.fp (cs := #[.string t381, .int .i64 t373, .int .i64 t374]) ?_ 1; refine M.fp (cs := #[.string t372, .int .i64 t373, .int .i64 t374]) ?_ 0; refine M.fr ?_ zcm; refine M.fr ?_ zcm; refine M.fr ?_ zcm; exact M.bk zar) hg (Kd.R_ne zbv.out zar.out (by decide))); replace zbx := Aside0.mk (blk_grown (g := zbw) (o := .cells #[.string t375, .string t379] 43 (0, 0)) (by refine M.fp (cs := #[.string t375, .string (⟨#[]⟩ : ByteArray)]) ?_ 1; refine M.fr ?_ zbF; refine M.fr ?_ zbF; refine M.fr ?_ zbF; refine M.fr ?_ zco; refine M.fr ?_ zco; refine M.fr ?_ zco; exact M.bk zbx) hg (Kd.R_ne zbv.out zbx.out (by decide))); replace zcf := Aside0.mk (blk_grown (g := zce) (o := .cells #[.string t381, .int .i64 t382, .int .i64 t383] 81 (0, 0)) (by refine M.fr ?_ zcp; refine M.fr ?_ zcn; refine M.fr ?_ zcn; refine M.fr ?_ zcn; refine M.fp (cs := #[.string t381, .int .i64 t382, .int .i64 t378]) ?_ 2; refine M.fp (cs := #[.string t381, .int .i64 t377, .int .i64 t378]) ?_ 1; refine M.fp (cs := #[.string t376, .int .i64 t377, .int .i64 t378]) ?_ 0; exact M.bk zcf) hg (Kd.R_ne zbv.out zcf.out (by decide))); replace HB := Aside0.mk (hb); have HO387 := Aside0.mk (ho); clear zbv; clear ho hb hg hat; obtain ⟨Ao58, co58, eo58⟩ := Kd.R_slice HO387.out; subst eo58; obtain ⟨zc0, zc1, zc2⟩ := M.bc3 (w := w57) (a := .int .i64 zaI) (b := zbs) (c := zbt) zal.out; obtain ⟨zc3, zc4, zc5⟩ := M.bf3 zal; obtain ⟨zc6, zc7⟩ := M.bc2 (w := w57) (a := .string t375) (b := .string t379) zbx.out; obtain ⟨zc8, zc9⟩ := M.bf2 zbx) | ((with_reducible refine gate_builtin (b := .append) (xs := #[.tmp 72, .tmp 74]) rfl ?_); at_builtin; refine Kd.R_append k43 (w0 := w) w.heap.size rfl (.tmp 72) (.tmp 74) 36 43 (.agg #[(.string ⟨#[]⟩), (.string ⟨#[]⟩)]) 32 rfl Tryd.underlying36 info43 rfl (by decide) (by omega) zbs zbq (⟨t375, t379⟩ : S43) [.string t375, .string t379] (fun k_ => k_ ≠ zbw) (fun _ => False) rfl (by first | (go_simp; done) | (go_simp; rfl)) ?aP (fun _ hk => hk.elim) ?aF ?aO ?aB ?aS ?aL ?_; (case aP => exact k43_mkM _ _ _ (⟨t375, t379⟩ : S43)); (case aB => exact (M.up HB)); (case aF => exact (fun k_ hk => Kd.freshB (g := zbw) (o := .cells #[.string t375, .string t379] 43 (0, 0)) (by refine M.fr ?_ zbD; exact M.bk zbx) k_ hk)); (case aO => exact (by (with_reducible repeat (first | apply Kd.R_alloc | apply Kd.R_drewN | apply Kd.R_drew)); exact Kd.R_mono (Kd.R_far (p := ⟨zak, 2, none⟩) (Kd.R_types zbu.out zal.out (by decide)) (fun _ hk => hk.2) (.slice Ao58 y385.length co58)) (fun _ hk => hk.1.2))); (case aS => exact (below_size (M.up HB))); (case aL => have := LMc32.out; omega); intro v389 w61 ho hb hg hat; rw [← Ny388.out] at ho; replace zah := Aside0.mk (blk_grown (g := zag) (o := .cells #[.int .i64 0, .slice none 0 0, .slice none 0 0] 39 (0, 0)) (by refine M.fr ?_ zao; exact M.bk zah) hg (Kd.R_ne zbu.out zah.out (by decide))); replace zar := Aside0.mk (blk_grown (g := zaq) (o := .cells #[.string t381, .int .i64 t382, .int .i64 t383] 81 (0, 0)) (by refine M.fr ?_ zax; exact M.bk zar) hg (Kd.R_ne zbu.out zar.out (by decide))); replace zbx := Aside0.mk (blk_grown (g := zbw) (o := .cells #[.string t375, .string t379] 43 (0, 0)) (by refine M.fr ?_ zbD; exact M.bk zbx) hg (Kd.R_away zbu.out (fun _ hk => hk.2))); replace zcf := Aside0.mk (blk_grown (g := zce) (o := .cells #[.string t381, .int .i64 t382, .int .i64 t383] 81 (0, 0)) (by refine M.fr ?_ zcl; exact M.bk zcf) hg (Kd.R_ne zbu.out zcf.out (by decide))); replace HO387 := Aside0.mk (Kd.R_over' (by (with_reducible repeat (first | apply Kd.R_alloc | apply Kd.R_drewN | apply Kd.R_drew)); exact (Kd.R_mono (Kd.R_far (p := ⟨zak, 2, none⟩) (Kd.R_types HO387.out zal.out (by decide)) (fun _ hk => hk.2) (.slice Ao58 y385.length co58)) (fun _ h_ => h_.1))) (Kd.R_typed (by (with_reducible repeat (first | apply Kd.R_alloc | apply Kd.R_drewN | apply Kd.R_drew)); exact (Kd.R_mono (Kd.R_far (p := ⟨zak, 2, none⟩) (Kd.R_types zbu.out zal.out (by decide)) (fun _ hk => hk.2) (.slice Ao58 y385.length co58)) (fun _ h_ => h_.1)))) (by decide) hg); replace zal := Aside0.mk (blk_grown (g := zak) (o := .cells #[.int .i64 zaI, zbs, .slice Ao58 y385.length co58] 39 (0, 0)) (by refine M.fp (cs := #[.int .i64 zaI, zbs, zbt]) ?_ 2; exact M.bk zal) hg (Kd.R_ne zbu.out zal.out (by decide))); replace HB := Aside0.mk (hb); have HO390 := Aside0.mk (ho); clear zbu; clear ho hb hg hat; obtain ⟨Ao62, co62, eo62⟩ := Kd.R_slice HO390.out; subst eo62; obtain ⟨zda, zdb, zdc⟩ := M.bc3 (w := w61) (a := .int .i64 zaI) (b := zbs) (c := .slice Ao58 y385.length co58) zal.out; obtain ⟨zdd, zde, zdf⟩ := M.bf3 zal))
         go_roundg k2
         case measure => have := HJ2.out; have := HK2.out; omega
         case rel => exact ⟨(wrap64 (x8_2 + 1)), (y388), (y385), (t381), (t382), (t383), (.slice Ao62 y388.length co62), (.slice Ao58 y385.length co58), M.eqv, H', ⟨by have := HJ2.out; have := HK2.out; omega⟩, ⟨by (with_reducible repeat (first | apply Kd.R_alloc | apply Kd.R_drewN | apply Kd.R_drew)); exact Kd.R_mono (Kd.R_far (p := ⟨zak, 1, none⟩) (Kd.R_types HO390.out zal.out (by decide)) (fun _ hk => hk.2) (.slice Ao62 y388.length co62)) (fun _ hk => trivial)⟩, ⟨by (with_reducible repeat (first | apply Kd.R_alloc | apply Kd.R_drewN | apply Kd.R_drew)); exact Kd.R_mono (Kd.R_far (p := ⟨zak, 1, none⟩) (Kd.R_types HO387.out zal.out (by decide)) (fun _ hk => hk.2) (.slice Ao62 y388.length co62)) (fun _ hk => trivial)⟩, ⟨by refine M.fr ?_ zao; exact M.bk zah⟩, ⟨by refine M.fp (cs := #[.int .i64 zaI, zbs, .slice Ao58 y385.length co58]) ?_ 1; exact M.bk zal⟩, ⟨by refine M.fr ?_ zax; exact M.bk zar⟩, ⟨M.up HB⟩⟩
        ·exact M.nf c32 H
       ·exact M.nf c31 H
      ·rw [if_neg c28] at H
       have c28b0 := decide_eq_false c28
       clear c28
       replace H := Option.bind_eq_some_iff.mp H
       obtain ⟨⟨t391, t392, t393, t394⟩, A640, H⟩ := H
       replace H : (if zbq.length < 4398046511104 then (pleachref19_Take_p.l0 k2 a0 t370 (wrap64 (x8_2 + 1)) zaI (zbq ++ [(⟨t375, t394⟩ : S43)]) zbr t391 t392 t393) else (none)) = some (r1, r2, r3, r4) := H
       have A64 := Aside0.mk A640
       clear A640
       by_cases c65 : zbq.length < 4398046511104
       ·rw [if_pos c65] at H
        have LMc65 := Aside0.mk c65
        clear c65
        obtain ⟨y395, hy395⟩ : ∃ y_ : List (S43), y_ = (zbq ++ [(⟨t375, t394⟩ : S43)]) := ⟨_, rfl⟩
        replace H : (pleachref19_Take_p.l0 k2 a0 t370 (wrap64 (x8_2 + 1)) zaI y395 zbr t391 t392 t393) = some (r1, r2, r3, r4) := by first | (rw [hy395]; with_reducible exact H) | (have H2_ := (Option.bind_some _ _).symm.trans H; rw [hy395]; with_reducible exact H2_) | (have H2_ := (Option.bind_some _ _).symm.trans H; with_reducible exact H2_) | with_reducible exact H | (rw [hy395]; exact H) | exact H
        have Ny395 := Aside0.mk hy395
        clear hy395
        have H' := Aside0.mk H
        clear H
        go_wp2_with (first | ((with_reducible refine gate_dst (N := 9) rfl ?_); refine M.bx 9 43 (#[.string (⟨#[]⟩ : ByteArray), .string (⟨#[]⟩ : ByteArray)]) ?_; intro zbw hg w66 hbox hb; replace zbu := Aside0.mk (Kd.R_below (Kd.R_elderB (M.ro zbu) zbw (Nat.le_of_eq hg.symm)) hb); replace zbv := M.roB zbv hb; have zbx := Aside0.mk (hbox); have zby := M.upG HB hg; have zbz := M.upG HB hg; replace HB := M.upS HB hb; have zbA := M.bkL zah hg; have zbB := M.bkG zah hg; replace zah := M.bkB zah hb; have zbC := M.bkL zal hg; have zbD := M.bkG zal hg; replace zal := M.bkB zal hb; have zbE := M.bkL zar hg; have zbF := M.bkG zar hg; replace zar := M.bkB zar hb; clear hb hbox hg; have zdg := zav.out; have zdh := zau.out; have zdi := zax.out; have zdj := zaw.out; have zdk := zbE.out; have zdl := zbF.out; obtain ⟨zdm, zdn, zdo⟩ := M.bc3 (w := w66) (a := .string zaJ) (b := .int .i64 zaK) (c := .int .i64 zaL) zar.out; obtain ⟨zdp, zdq, zdr⟩ := M.bf3 zar) | ((with_reducible refine gate_callee (f := 34) rfl ?_); refine M.goes (some 39) Tryd.func34 #[.agg #[.string zaJ, .int .i64 zaK, .int .i64 zaL], .int .i64 64] rfl ?_; (with_reducible refine (pleachref04_Text.calls zaJ zaK zaL 64 t372 t373 t374 t375 _ A27.out).mono ?_); rintro e w71 ⟨rfl, hb⟩; refine ⟨_, rfl, ?_⟩; replace zbu := M.roB zbu hb; replace zbv := M.roB zbv hb; replace zah := M.bkB zah hb; replace zal := M.bkB zal hb; replace zar := M.bkB zar hb; replace zbx := M.bkB zbx hb; replace HB := M.upS HB hb; (try clear hb); obtain ⟨zds, zdt, zdu⟩ := M.bc3 (w := w71) (a := .string zaJ) (b := .int .i64 zaK) (c := .int .i64 zaL) zar.out; obtain ⟨zdv, zdw, zdx⟩ := M.bf3 zar; have zdy := zbB.out; have zdz := zbA.out; have zdA := zbD.out; have zdB := zbC.out; obtain ⟨zdC, zdD⟩ := M.bc2 (w := w71) (a := .string (⟨#[]⟩ : ByteArray)) (b := .string (⟨#[]⟩ : ByteArray)) zbx.out; obtain ⟨zdE, zdF⟩ := M.bf2 zbx; have zdG := zap.out; have zdH := zao.out; obtain ⟨zdI, zdJ, zdK⟩ := M.bc3 (w := w71) (a := .int .i64 zaI) (b := zbs) (c := zbt) zal.out; obtain ⟨zdL, zdM, zdN⟩ := M.bf3 zal) | ((with_reducible refine gate_callee (f := 34) rfl ?_); refine M.goes (some 67) Tryd.func34 #[.agg #[.string t372, .int .i64 t373, .int .i64 t374], .int .i64 2048] rfl ?_; (with_reducible refine (pleachref04_Text.calls t372 t373 t374 2048 t391 t392 t393 t394 _ A64.out).mono ?_); rintro e w78 ⟨rfl, hb⟩; refine ⟨_, rfl, ?_⟩; replace zbu := Aside0.mk (Kd.R_below (by (with_reducible repeat (first | apply Kd.R_alloc | apply Kd.R_drewN | apply Kd.R_drew)); exact (Kd.R_mono (Kd.R_mono (Kd.R_far (p := ⟨zbw, 0, none⟩) (Kd.R_far (p := ⟨zaq, 2, none⟩) (Kd.R_far (p := ⟨zaq, 1, none⟩) (Kd.R_far (p := ⟨zaq, 0, none⟩) (Kd.R_mono (Kd.R_types zbu.out zar.out (by decide)) (fun k_ hk => (⟨hk, hk.1.2⟩ : _ ∧ k_ ≠ zbw))) (fun _ hk => hk.1.2) (.string t372)) (fun _ hk => hk.1.2) (.int .i64 t373)) (fun _ hk => hk.1.2) (.int .i64 t374)) (fun _ hk => hk.2) (.string t375)) (fun _ h_ => h_.1)) (fun _ h_ => h_.1))) hb); replace zbv := Aside0.mk (Kd.R_below (by (with_reducible repeat (first | apply Kd.R_alloc | apply Kd.R_drewN | apply Kd.R_drew)); exact (Kd.R_mono (Kd.R_mono (Kd.R_far (p := ⟨zbw, 0, none⟩) (Kd.R_far (p := ⟨zaq, 2, none⟩) (Kd.R_far (p := ⟨zaq, 1, none⟩) (Kd.R_far (p := ⟨zaq, 0, none⟩) (Kd.R_types (Kd.R_types zbv.out zar.out (by decide)) zbx.out (by decide)) (fun _ hk => hk.1.2) (.string t372)) (fun _ hk => hk.1.2) (.int .i64 t373)) (fun _ hk => hk.1.2) (.int .i64 t374)) (fun _ hk => hk.2) (.string t375)) (fun _ h_ => h_.1)) (fun _ h_ => h_.1))) hb); replace zah := Aside0.mk (blk_below (g := zag) (o := .cells #[.int .i64 0, .slice none 0 0, .slice none 0 0] 39 (0, 0)) (by refine M.fr ?_ zbA; refine M.fr ?_ zau; refine M.fr ?_ zau; refine M.fr ?_ zau; exact M.bk zah) hb); replace zal := Aside0.mk (blk_below (g := zak) (o := .cells #[.int .i64 zaI, zbs, zbt] 39 (0, 0)) (by refine M.fr ?_ zbC; refine M.fr ?_ zaw; refine M.fr ?_ zaw; refine M.fr ?_ zaw; exact M.bk zal) hb); replace zar := Aside0.mk (blk_below (g := zaq) (o := .cells #[.string t372, .int .i64 t373, .int .i64 t374] 81 (0, 0)) (by refine M.fr ?_ zbE; refine M.fp (cs := #[.string t372, .int .i64 t373, .int .i64 zaL]) ?_ 2; refine M.fp (cs := #[.string t372, .int .i64 zaK, .int .i64 zaL]) ?_ 1; refine M.fp (cs := #[.string zaJ, .int .i64 zaK, .int .i64 zaL]) ?_ 0; exact M.bk zar) hb); replace zbx := Aside0.mk (blk_below (g := zbw) (o := .cells #[.string t375, .string (⟨#[]⟩ : ByteArray)] 43 (0, 0)) (by refine M.fp (cs := #[.string (⟨#[]⟩ : ByteArray), .string (⟨#[]⟩ : ByteArray)]) ?_ 0; refine M.fr ?_ zbF; refine M.fr ?_ zbF; refine M.fr ?_ zbF; exact M.bk zbx) hb); replace HB := M.upS HB hb; (try clear hb); obtain ⟨zdO, zdP, zdQ⟩ := M.bc3 (w := w78) (a := .string t372) (b := .int .i64 t373) (c := .int .i64 t374) zar.out; obtain ⟨zdR, zdS, zdT⟩ := M.bf3 zar; obtain ⟨zdU, zdV⟩ := M.bc2 (w := w78) (a := .string t375) (b := .string (⟨#[]⟩ : ByteArray)) zbx.out; obtain ⟨zdW, zdX⟩ := M.bf2 zbx; obtain ⟨zdY, zdZ, zd0⟩ := M.bc3 (w := w78) (a := .int .i64 zaI) (b := zbs) (c := zbt) zal.out; obtain ⟨zd1, zd2, zd3⟩ := M.bf3 zal) | ((with_reducible refine gate_builtin (b := .append) (xs := #[.tmp 72, .tmp 74]) rfl ?_); at_builtin; refine Kd.R_append k43 (w0 := w) w.heap.size rfl (.tmp 72) (.tmp 74) 36 43 (.agg #[(.string ⟨#[]⟩), (.string ⟨#[]⟩)]) 32 rfl Tryd.underlying36 info43 rfl (by decide) (by omega) zbs zbq (⟨t375, t394⟩ : S43) [.string t375, .string t394] (fun k_ => k_ ≠ zbw) (fun _ => False) rfl (by first | (go_simp; done) | (go_simp; rfl)) ?aP (fun _ hk => hk.elim) ?aF ?aO ?aB ?aS ?aL ?_; (case aP => exact k43_mkM _ _ _ (⟨t375, t394⟩ : S43)); (case aB => exact (M.up HB)); (case aF => exact (fun k_ hk => Kd.freshB (g := zbw) (o := .cells #[.string t375, .string t394] 43 (0, 0)) (by refine M.fp (cs := #[.string t375, .string (⟨#[]⟩ : ByteArray)]) ?_ 1; refine M.fr ?_ zbF; refine M.fr ?_ zbF; refine M.fr ?_ zbF; exact M.bk zbx) k_ hk)); (case aO => exact (by (with_reducible repeat (first | apply Kd.R_alloc | apply Kd.R_drewN | apply Kd.R_drew)); exact Kd.R_mono (Kd.R_far (p := ⟨zbw, 1, none⟩) (Kd.R_far (p := ⟨zaq, 2, none⟩) (Kd.R_far (p := ⟨zaq, 1, none⟩) (Kd.R_far (p := ⟨zaq, 0, none⟩) (Kd.R_mono (Kd.R_types zbu.out zar.out (by decide)) (fun k_ hk => (⟨hk, hk.1.2⟩ : _ ∧ k_ ≠ zbw))) (fun _ hk => hk.1.2) (.string t391)) (fun _ hk => hk.1.2) (.int .i64 t392)) (fun _ hk => hk.1.2) (.int .i64 t393)) (fun _ hk => hk.2) (.string t394)) (fun _ hk => hk.1.1.2))); (case aS => exact (below_size (M.up HB))); (case aL => have := LMc65.out; omega); intro v396 w82 ho hb hg hat; rw [← Ny395.out] at ho; replace zbv := Aside0.mk (Kd.R_over' (by (with_reducible repeat (first | apply Kd.R_alloc | apply Kd.R_drewN | apply Kd.R_drew)); exact (Kd.R_mono (Kd.R_mono (Kd.R_far (p := ⟨zbw, 1, none⟩) (Kd.R_far (p := ⟨zaq, 2, none⟩) (Kd.R_far (p := ⟨zaq, 1, none⟩) (Kd.R_far (p := ⟨zaq, 0, none⟩) (Kd.R_types (Kd.R_types zbv.out zar.out (by decide)) zbx.out (by decide)) (fun _ hk => hk.1.2) (.string t391)) (fun _ hk => hk.1.2) (.int .i64 t392)) (fun _ hk => hk.1.2) (.int .i64 t393)) (fun _ hk => hk.2) (.string t394)) (fun _ h_ => h_.1)) (fun _ h_ => h_.1))) (Kd.R_typed (by (with_reducible repeat (first | apply Kd.R_alloc | apply Kd.R_drewN | apply Kd.R_drew)); exact (Kd.R_mono (Kd.R_mono (Kd.R_far (p := ⟨zbw, 1, none⟩) (Kd.R_far (p := ⟨zaq, 2, none⟩) (Kd.R_far (p := ⟨zaq, 1, none⟩) (Kd.R_far (p := ⟨zaq, 0, none⟩) (Kd.R_mono (Kd.R_types zbu.out zar.out (by decide)) (fun k_ hk => (⟨hk, hk.1.2⟩ : _ ∧ k_ ≠ zbw))) (fun _ hk => hk.1.2) (.string t391)) (fun _ hk => hk.1.2) (.int .i64 t392)) (fun _ hk => hk.1.2) (.int .i64 t393)) (fun _ hk => hk.2) (.string t394)) (fun _ h_ => h_.1)) (fun _ h_ => h_.1)))) (by decide) hg); replace zah := Aside0.mk (blk_grown (g := zag) (o := .cells #[.int .i64 0, .slice none 0 0, .slice none 0 0] 39 (0, 0)) (by refine M.fr ?_ zbA; refine M.fr ?_ zau; refine M.fr ?_ zau; refine M.fr ?_ zau; exact M.bk zah) hg (Kd.R_ne zbu.out zah.out (by decide))); replace zal := Aside0.mk (blk_grown (g := zak) (o := .cells #[.int .i64 zaI, zbs, zbt] 39 (0, 0)) (by refine M.fr ?_ zbC; refine M.fr ?_ zaw; refine M.fr ?_ zaw; refine M.fr ?_ zaw; exact M.bk zal) hg (Kd.R_ne zbu.out zal.out (by decide))); replace zar := Aside0.mk (blk_grown (g := zaq) (o := .cells #[.string t391, .int .i64 t392, .int .i64 t393] 81 (0, 0)) (by refine M.fr ?_ zbE; refine M.fp (cs := #[.string t391, .int .i64 t392, .int .i64 t374]) ?_ 2; refine M.fp (cs := #[.string t391, .int .i64 t373, .int .i64 t374]) ?_ 1; refine M.fp (cs := #[.string t372, .int .i64 t373, .int .i64 t374]) ?_ 0; exact M.bk zar) hg (Kd.R_ne zbu.out zar.out (by decide))); replace zbx := Aside0.mk (blk_grown (g := zbw) (o := .cells #[.string t375, .string t394] 43 (0, 0)) (by refine M.fp (cs := #[.string t375, .string (⟨#[]⟩ : ByteArray)]) ?_ 1; refine M.fr ?_ zbF; refine M.fr ?_ zbF; refine M.fr ?_ zbF; exact M.bk zbx) hg (Kd.R_away zbu.out (fun _ hk => hk.2))); replace HB := Aside0.mk (hb); have HO397 := Aside0.mk (ho); clear zbu; clear ho hb hg hat; obtain ⟨Ao83, co83, eo83⟩ := Kd.R_slice HO397.out; subst eo83; obtain ⟨zd4, zd5, zd6⟩ := M.bc3 (w := w82) (a := .int .i64 zaI) (b := zbs) (c := zbt) zal.out; obtain ⟨zd7, zd8, zd9⟩ := M.bf3 zal))
        go_roundg k2
        case measure => have := HJ2.out; have := HK2.out; omega
        case rel => exact ⟨(wrap64 (x8_2 + 1)), (y395), (zbr), (t391), (t392), (t393), (.slice Ao83 y395.length co83), (zbt), M.eqv, H', ⟨by have := HJ2.out; have := HK2.out; omega⟩, ⟨by (with_reducible repeat (first | apply Kd.R_alloc | apply Kd.R_drewN | apply Kd.R_drew)); exact Kd.R_mono (Kd.R_far (p := ⟨zak, 1, none⟩) (Kd.R_types HO397.out zal.out (by decide)) (fun _ hk => hk.2) (.slice Ao83 y395.length co83)) (fun _ hk => trivial)⟩, ⟨by (with_reducible repeat (first | apply Kd.R_alloc | apply Kd.R_drewN | apply Kd.R_drew)); exact Kd.R_mono (Kd.R_far (p := ⟨zak, 1, none⟩) (Kd.R_types zbv.out zal.out (by decide)) (fun _ hk => hk.2) (.slice Ao83 y395.length co83)) (fun _ hk => trivial)⟩, ⟨by refine M.fr ?_ zao; exact M.bk zah⟩, ⟨by refine M.fp (cs := #[.int .i64 zaI, zbs, zbt]) ?_ 1; exact M.bk zal⟩, ⟨by refine M.fr ?_ zax; exact M.bk zar⟩, ⟨M.up HB⟩⟩
       ·exact M.nf c65 H
     ·rw [if_neg c26] at H
      have c26b0 := decide_eq_false c26
      clear c26
      by_cases c85 : zaL = 0
      ·rw [if_pos c85] at H
       have c85b0 : (zaL == 0) = true := beq_iff_eq.mpr c85
       have c85b1 : (zaL != 0) = false := bne_eq_false_iff_eq.mpr c85
       clear c85
       replace H := Option.bind_eq_some_iff.mp H
       obtain ⟨t398, A860, H⟩ := H
       replace H : (if t398.toList = a0.toList then (some (zaI, zbq, zbr, true)) else (some (0, ([] : List (S43)), ([] : List Int), false))) = some (r1, r2, r3, r4) := H
       have A86 := Aside0.mk A860
       clear A860
       by_cases c87 : t398.toList = a0.toList
       ·rw [if_pos c87] at H
        have c87b0 : (t398.toList == a0.toList) = true := beq_iff_eq.mpr c87
        have c87b1 : (t398.toList != a0.toList) = false := bne_eq_false_iff_eq.mpr c87
        clear c87
        simp only [Option.some.injEq, Prod.mk.injEq] at H
        obtain ⟨rfl, rfl, rfl, rfl⟩ := H
        have zea := zav.out
        have zeb := zau.out
        have zec := zax.out
        have zed := zaw.out
        obtain ⟨zee, zef, zeg⟩ := M.bc3 (w := wr) (a := .string zaJ) (b := .int .i64 zaK) (c := .int .i64 zaL) zar.out
        obtain ⟨zeh, zei, zej⟩ := M.bf3 zar
        have zek := zap.out
        have zel := zao.out
        obtain ⟨zem, zen, zeo⟩ := M.bc3 (w := wr) (a := .int .i64 zaI) (b := zbs) (c := zbt) zal.out
        obtain ⟨zep, zeq, zer⟩ := M.bf3 zal
        obtain ⟨Ao93, co93, eo93⟩ := Kd.R_slice zbu.out
        subst eo93
        obtain ⟨Ao94, co94, eo94⟩ := Kd.R_slice zbv.out
        subst eo94
        go_wp2_with (first | (go_at_call 36; (with_reducible refine (pleachref19_Put.calls k2 zaI _ _ zbq _ _ zbr t398 _ ?side1 ?side2 ?side3 ?side4 A86.out).mono ?_); (case side1 => repeat (first | exact (Kd.R_reads' zbu.out).2.2 | (with_reducible refine Kd.C_alloc ?_ _) | (with_reducible refine Kd.C_drewN ?_ _) | (with_reducible refine Kd.C_drew ?_))); (case side2 => exact (Kd.R_reads' zbu.out).2.1); (case side3 => repeat (first | exact (Kd.R_reads' zbv.out).2.2 | (with_reducible refine Kd.C_alloc ?_ _) | (with_reducible refine Kd.C_drewN ?_ _) | (with_reducible refine Kd.C_drew ?_))); (case side4 => exact (Kd.R_reads' zbv.out).2.1); rintro e w95 ⟨rfl, hb⟩; replace zbu := M.roB zbu hb; replace zbv := M.roB zbv hb; replace zah := M.bkB zah hb; replace zal := M.bkB zal hb; replace zar := M.bkB zar hb; replace HB := M.upS HB hb; (try clear hb); (try clear hb2); (try clear hk); (try clear hi); obtain ⟨zes, zet, zeu⟩ := M.bc3 (w := w95) (a := .int .i64 zaI) (b := .slice Ao93 zbq.length co93) (c := .slice Ao94 zbr.length co94) zal.out; obtain ⟨zev, zew, zex⟩ := M.bf3 zal; obtain ⟨zey, zez, zeA⟩ := M.bc3 (w := w95) (a := .int .i64 0) (b := .slice none 0 0) (c := .slice none 0 0) zah.out; obtain ⟨zeB, zeC, zeD⟩ := M.bf3 zah))
        refine bodyPost_ret (results_ct rfl _ _ zag 39 #[.int .i64 zaI, .slice Ao93 zbq.length co93, .slice Ao94 zbr.length co94] (0, 0) _ rfl (by refine M.fp (cs := #[.int .i64 zaI, .slice Ao93 zbq.length co93, .slice none 0 0]) ?_ 2; refine M.fp (cs := #[.int .i64 zaI, .slice none 0 0, .slice none 0 0]) ?_ 1; refine M.fp (cs := #[.int .i64 0, .slice none 0 0, .slice none 0 0]) ?_ 0; exact M.bk zah) Tryd.underlying39 rfl (by kernel_rfl)) rfl ?_
        exact ⟨_, _, M.eqe, by (with_reducible repeat (first | apply Kd.R_alloc | apply Kd.R_drewN | apply Kd.R_drew)); exact Kd.R_mono (Kd.R_far (p := ⟨zag, 2, none⟩) (Kd.R_far (p := ⟨zag, 1, none⟩) (Kd.R_far (p := ⟨zag, 0, none⟩) (Kd.R_types zbu.out zah.out (by decide)) (fun _ hk => hk.2) (.int .i64 zaI)) (fun _ hk => hk.2) (.slice Ao93 zbq.length co93)) (fun _ hk => hk.2) (.slice Ao94 zbr.length co94)) (fun _ hk => trivial), by (with_reducible repeat (first | apply Kd.R_alloc | apply Kd.R_drewN | apply Kd.R_drew)); exact Kd.R_mono (Kd.R_far (p := ⟨zag, 2, none⟩) (Kd.R_far (p := ⟨zag, 1, none⟩) (Kd.R_far (p := ⟨zag, 0, none⟩) (Kd.R_types zbv.out zah.out (by decide)) (fun _ hk => hk.2) (.int .i64 zaI)) (fun _ hk => hk.2) (.slice Ao93 zbq.length co93)) (fun _ hk => hk.2) (.slice Ao94 zbr.length co94)) (fun _ hk => trivial), M.up HB⟩
       ·rw [if_neg c87] at H
        have c87b0 : (t398.toList == a0.toList) = false := beq_eq_false_iff_ne.mpr c87
        have c87b1 : (t398.toList != a0.toList) = true := bne_iff_ne.mpr c87
        simp only [Option.some.injEq, Prod.mk.injEq] at H
        obtain ⟨rfl, rfl, rfl, rfl⟩ := H
        have zeE := zav.out
        have zeF := zau.out
        have zeG := zax.out
        have zeH := zaw.out
        obtain ⟨zeI, zeJ, zeK⟩ := M.bc3 (w := wr) (a := .string zaJ) (b := .int .i64 zaK) (c := .int .i64 zaL) zar.out
        obtain ⟨zeL, zeM, zeN⟩ := M.bf3 zar
        have zeO := zap.out
        have zeP := zao.out
        obtain ⟨zeQ, zeR, zeS⟩ := M.bc3 (w := wr) (a := .int .i64 zaI) (b := zbs) (c := zbt) zal.out
        obtain ⟨zeT, zeU, zeV⟩ := M.bf3 zal
        obtain ⟨Ao103, co103, eo103⟩ := Kd.R_slice zbu.out
        subst eo103
        obtain ⟨Ao104, co104, eo104⟩ := Kd.R_slice zbv.out
        subst eo104
        go_wp2_with (first | (go_at_call 36; (with_reducible refine (pleachref19_Put.calls k2 zaI _ _ zbq _ _ zbr t398 _ ?side1 ?side2 ?side3 ?side4 A86.out).mono ?_); (case side1 => repeat (first | exact (Kd.R_reads' zbu.out).2.2 | (with_reducible refine Kd.C_alloc ?_ _) | (with_reducible refine Kd.C_drewN ?_ _) | (with_reducible refine Kd.C_drew ?_))); (case side2 => exact (Kd.R_reads' zbu.out).2.1); (case side3 => repeat (first | exact (Kd.R_reads' zbv.out).2.2 | (with_reducible refine Kd.C_alloc ?_ _) | (with_reducible refine Kd.C_drewN ?_ _) | (with_reducible refine Kd.C_drew ?_))); (case side4 => exact (Kd.R_reads' zbv.out).2.1); rintro e w105 ⟨rfl, hb⟩; replace zbu := M.roB zbu hb; replace zbv := M.roB zbv hb; replace zah := M.bkB zah hb; replace zal := M.bkB zal hb; replace zar := M.bkB zar hb; replace HB := M.upS HB hb; (try clear hb); (try clear hb2); (try clear hk); (try clear hi); obtain ⟨zeW, zeX, zeY⟩ := M.bc3 (w := w105) (a := .int .i64 0) (b := .slice none 0 0) (c := .slice none 0 0) zah.out; obtain ⟨zeZ, ze0, ze1⟩ := M.bf3 zah))
        refine bodyPost_ret (results_ct rfl _ _ zag 39 #[.int .i64 0, .slice none 0 0, .slice none 0 0] (0, 0) _ rfl (by refine M.fp (cs := #[.int .i64 0, .slice none 0 0, .slice none 0 0]) ?_ 2; refine M.fp (cs := #[.int .i64 0, .slice none 0 0, .slice none 0 0]) ?_ 1; refine M.fp (cs := #[.int .i64 0, .slice none 0 0, .slice none 0 0]) ?_ 0; exact M.bk zah) Tryd.underlying39 rfl (by kernel_rfl)) rfl ?_
        exact ⟨_, _, M.eqe, M.nl, M.nl, M.up HB⟩
      ·rw [if_neg c85] at H
       have c85b0 : (zaL == 0) = false := beq_eq_false_iff_ne.mpr c85
       have c85b1 : (zaL != 0) = true := bne_iff_ne.mpr c85
       simp only [Option.some.injEq, Prod.mk.injEq] at H
       obtain ⟨rfl, rfl, rfl, rfl⟩ := H
       have ze2 := zav.out
       have ze3 := zau.out
       have ze4 := zax.out
       have ze5 := zaw.out
       obtain ⟨ze6, ze7, ze8⟩ := M.bc3 (w := wr) (a := .string zaJ) (b := .int .i64 zaK) (c := .int .i64 zaL) zar.out
       obtain ⟨ze9, zfa, zfb⟩ := M.bf3 zar
       have zfc := zao.out
       have zfd := zap.out
       obtain ⟨zfe, zff, zfg⟩ := M.bc3 (w := wr) (a := .int .i64 0) (b := .slice none 0 0) (c := .slice none 0 0) zah.out
       obtain ⟨zfh, zfi, zfj⟩ := M.bf3 zah
       go_wp2
       refine bodyPost_ret (results_ct rfl _ _ zag 39 #[.int .i64 0, .slice none 0 0, .slice none 0 0] (0, 0) _ rfl (by refine M.fp (cs := #[.int .i64 0, .slice none 0 0, .slice none 0 0]) ?_ 2; refine M.fp (cs := #[.int .i64 0, .slice none 0 0, .slice none 0 0]) ?_ 1; refine M.fp (cs := #[.int .i64 0, .slice none 0 0, .slice none 0 0]) ?_ 0; exact M.bk zah) Tryd.underlying39 rfl (by kernel_rfl)) rfl ?_
       exact ⟨_, _, M.eqe, M.nl, M.nl, M.up HB⟩
theorem pleachref19_Take.read_span (s : ByteArray) (lv : Int) : ∀ (n : Nat) (p er : Int), M.sok s p → (chunk_fits.read s lv n p er).2.2.2 = 0 →
    er = 0 ∧ M.span s p (chunk_fits.read s lv n p er).2.2.1 (chunk_fits.enc lv (chunk_fits.read s lv n p er).1 (chunk_fits.read s lv n p er).2.1) ∧ (chunk_fits.read s lv n p er).1.length = n
  | 0, p, er, hs, h => ⟨h, M.span_nil s hs.1, rfl⟩
  | n + 1, p, er, hs, h => by
    have hk := M.xtext_ok s er 64 hs
    rw [chunk_fits.read] at h ⊢
    by_cases hl : lv > 0
    · rw [if_pos hl] at h ⊢
      have hv := M.xfix_ok s (M.xtext s p er 64).2.2 32 hk
      have hm := M.xnum_ok s (M.xfix s (M.xtext s p er 64).2.1 (M.xtext s p er 64).2.2 32).2.2 2147483648 hv
      obtain ⟨e3, s3, l3⟩ := pleachref19_Take.read_span s lv n _ _ hm h
      obtain ⟨e2, s2, g0, g1⟩ := M.xnum_span hv e3
      obtain ⟨e1, s1, z1⟩ := M.xfix_span hk e2
      obtain ⟨e0, s0, z0⟩ := M.xtext_span hs e1
      refine ⟨e0, ?_, by simp only [List.length_cons, l3]⟩
      have := M.span_trans s0 (M.span_trans s1 (M.span_trans s2 s3))
      simp only [chunk_fits.enc, if_pos hl, List.headD_cons, List.tail_cons, List.append_assoc] at this ⊢
      exact this
    · rw [if_neg hl] at h ⊢
      have hv := M.xtext_ok s (M.xtext s p er 64).2.2 2048 hk
      obtain ⟨e3, s3, l3⟩ := pleachref19_Take.read_span s lv n _ _ hv h
      obtain ⟨e1, s1, z1⟩ := M.xtext_span hk e3
      obtain ⟨e0, s0, z0⟩ := M.xtext_span hs e1
      refine ⟨e0, ?_, by simp only [List.length_cons, l3]⟩
      have ht : ∀ m, (chunk_fits.read s lv m (M.xtext s (M.xtext s p er 64).2.1 (M.xtext s p er 64).2.2 2048).2.1 (M.xtext s (M.xtext s p er 64).2.1 (M.xtext s p er 64).2.2 2048).2.2).2.1 = [] := fun m => read_leaf s lv hl m _ _
      have := M.span_trans s0 (M.span_trans s1 s3)
      simp only [chunk_fits.enc, if_neg hl, List.append_assoc, ht, List.tail_nil] at this ⊢
      exact this
where
  read_leaf (s : ByteArray) (lv : Int) (hl : ¬ lv > 0) : ∀ (m : Nat) (p er : Int), (chunk_fits.read s lv m p er).2.1 = []
    | 0, _, _ => rfl
    | m + 1, p, er => by rw [chunk_fits.read, if_neg hl]; exact read_leaf s lv hl m _ _
theorem pleachref19_Take.ref_entries (lv : Int) (hl : 0 ≤ lv) (es : List S43) (cs : List Int) (he : es.length ≤ 100) (d : Nat) : ∀ (k i : Nat), i + d = es.length → 2 * d + 2 ≤ k →
    pleachref19_Wrong.l1 k (i : Int) lv es cs = some (chunk_fits.go lv (if i = 0 then none else some (rd_T43 es ((i : Int) - 1)).f0) (es.drop i)) := by
 induction d with
 | zero =>
  intro k i hi hk
  obtain ⟨k, rfl⟩ : ∃ m, k = m + 1 := ⟨k - 1, by omega⟩
  rw [pleachref19_Wrong.l1, if_neg (by omega), List.drop_of_length_le (by omega)]
  cases (if i = 0 then none else some (rd_T43 es ((i : Int) - 1)).f0) <;> rfl
 | succ d ih =>
  intro k i hi hk
  obtain ⟨k, rfl⟩ : ∃ m, k = m + 2 := ⟨k - 2, by omega⟩
  have hlt : i < es.length := by omega
  have hrd : rd_T43 es (i : Int) = es[i] := by simp [rd_T43, List.getD, hlt]
  have hn := ih k (i + 1) (by omega) (by omega)
  rw [if_neg (by omega), show ((i + 1 : Nat) : Int) - 1 = (i : Int) from by omega, hrd] at hn
  rw [List.drop_eq_getElem_cons hlt, chunk_fits.go.eq_def lv _ (es[i] :: es.drop (i + 1))]
  have hj : pleachref19_Wrong.l1 (k + 2) (i : Int) lv es cs = pleachref19_Wrong.j4 (k + 1) (i : Int) (!chunk_fits.ok lv es[i].f0 es[i].f1) lv es cs := by
   rw [pleachref19_Wrong.l1, if_pos (by omega), if_pos (by omega), hrd]
   generalize es[i] = e
   unfold chunk_fits.ok
   by_cases h1 : e.f0.size = 0
   ·rw [if_pos (by omega), decide_eq_false (fun z => by omega)]; rfl
   ·rw [if_neg (by omega)]
    by_cases h2 : 64 < e.f0.size
    ·rw [if_pos (by omega), decide_eq_false (fun z => by omega)]; rfl
    ·rw [if_neg (by omega)]
     by_cases h3 : lv = 0
     ·rw [if_pos h3]
      have h3' : ¬ lv > 0 := by omega
      simp only [if_neg h3']
      by_cases h4 : 2048 < e.f1.size
      ·rw [if_pos (by omega), decide_eq_false (fun z => by omega)]; rfl
      ·rw [if_neg (by omega), decide_eq_true ⟨by omega, by omega, by omega⟩]; rfl
     ·have h3' : lv > 0 := by omega
      rw [if_neg h3]
      simp only [if_pos h3']
      by_cases h4 : e.f1.size = 32
      ·rw [decide_eq_true ⟨by omega, by omega, h4⟩, h4]; rfl
      ·rw [decide_eq_false (fun z => h4 z.2.2), show ((e.f1.size : Int) != 32) = true from bne_iff_ne.2 (by omega)]; rfl
  rw [hj, pleachref19_Wrong.j4]
  simp only
  by_cases hk : chunk_fits.ok lv es[i].f0 es[i].f1 = true
  ·rw [hk, if_neg (by simp), if_pos rfl, M.wrap64_id (i := (i : Int) + 1) (by omega) (by omega), show (i : Int) + 1 = ((i + 1 : Nat) : Int) from by omega, hn]
   by_cases h0 : i = 0
   ·rw [if_neg (by omega), if_pos h0]
   ·rw [if_pos (by omega), if_neg h0, M.wrap64_id (i := (i : Int) - 1) (by omega) (by omega), if_pos (by omega), if_pos (by omega), if_pos (by omega), if_pos (by omega), hrd]
    simp only
    split <;> rfl
  ·rw [Bool.eq_false_iff.2 hk, if_pos (show (!false) = true from rfl), if_neg (by simp)]
theorem pleachref19_Take.ref_counts (lv : Int) (hl : 0 ≤ lv) (es : List S43) (cs : List Int) (he : es.length ≤ 100) (hc : cs.length ≤ 100) (d : Nat) : ∀ (k i : Nat), i + d = cs.length → d + 2 * es.length + 5 ≤ k →
    pleachref19_Wrong.l0 k (i : Int) lv es cs = some (if ((cs.drop i).all fun n => decide (1 ≤ n ∧ n ≤ 2147483648)) = true then chunk_fits.go lv none es else 2) := by
 induction d with
 | zero =>
  intro k i hi hk
  obtain ⟨k, rfl⟩ : ∃ m, k = m + 1 := ⟨k - 1, by omega⟩
  have := pleachref19_Take.ref_entries lv hl es cs he es.length k 0 (by omega) (by omega)
  rw [if_pos rfl, List.drop_zero] at this
  rw [pleachref19_Wrong.l0, if_neg (by omega), List.drop_of_length_le (by omega), List.all_nil, if_pos rfl]
  exact this
 | succ d ih =>
  intro k i hi hk
  obtain ⟨k, rfl⟩ : ∃ m, k = m + 1 := ⟨k - 1, by omega⟩
  have hlt : i < cs.length := by omega
  have hrd : rd cs (i : Int) = cs[i] := by simp [rd, List.getD, hlt]
  rw [pleachref19_Wrong.l0, if_pos (by omega), if_pos (by omega), hrd, List.drop_eq_getElem_cons hlt, List.all_cons, M.wrap64_id (i := (i : Int) + 1) (by omega) (by omega), show (i : Int) + 1 = ((i + 1 : Nat) : Int) from by omega, ih k (i + 1) (by omega) (by omega)]
  generalize cs[i] = n
  by_cases h0 : n < 1
  ·rw [if_pos h0, show decide (1 ≤ n ∧ n ≤ 2147483648) = false from decide_eq_false (fun z => by omega)]; rfl
  ·rw [if_neg h0]
   by_cases h1 : n > 2147483648
   ·rw [if_pos h1, show decide (1 ≤ n ∧ n ≤ 2147483648) = false from decide_eq_false (fun z => by omega)]; rfl
   ·rw [if_neg h1, show decide (1 ≤ n ∧ n ≤ 2147483648) = true from decide_eq_true ⟨by omega, by omega⟩, Bool.true_and]
theorem pleachref19_Take.ref_wrong (lv : Int) (es : List S43) (cs : List Int) (he : es.length ≤ 100) (hc : cs.length ≤ 100) (k : Nat) (hk : 400 ≤ k) : pleachref19_Wrong.f k lv es cs = some (chunk_fits.wrong lv es cs) := by
 obtain ⟨k, rfl⟩ : ∃ m, k = m + 2 := ⟨k - 2, by omega⟩
 have w2 : (lv < 0 ∨ 40 < lv ∨ 8 < es.length ∨ chunk_fits.counted lv es cs = false) → chunk_fits.wrong lv es cs = 2 := fun z => by unfold chunk_fits.wrong; rw [if_pos z]
 have w0 : ¬ (lv < 0 ∨ 40 < lv ∨ 8 < es.length ∨ chunk_fits.counted lv es cs = false) → chunk_fits.wrong lv es cs = chunk_fits.go lv none es := fun z => by unfold chunk_fits.wrong; rw [if_neg z]
 have ht : pleachref19_Wrong.j0 (k + 2) true lv es cs = some 2 := by rw [pleachref19_Wrong.j0, if_pos rfl]
 have hu : pleachref19_Wrong.j1 (k + 1) true lv es cs = some 2 := by rw [pleachref19_Wrong.j1, if_pos rfl]
 unfold pleachref19_Wrong.f
 by_cases h0 : lv < 0
 ·rw [if_pos h0, ht, w2 (.inl h0)]
 ·rw [if_neg h0]
  by_cases h1 : lv > 40
  ·rw [if_pos h1, ht, w2 (.inr (.inl h1))]
  ·rw [if_neg h1]
   by_cases h2 : (es.length : Int) > 8
   ·rw [decide_eq_true h2, ht, w2 (.inr (.inr (.inl (by omega))))]
   ·rw [decide_eq_false h2, pleachref19_Wrong.j0, if_neg (by simp)]
    have hg := pleachref19_Take.ref_counts lv (by omega) es cs he hc cs.length k 0 (by omega) (by omega)
    rw [List.drop_zero, show ((0 : Nat) : Int) = 0 from rfl] at hg
    have hf : pleachref19_Wrong.j1 (k + 1) false lv es cs = some (if (cs.all fun n => decide (1 ≤ n ∧ n ≤ 2147483648)) = true then chunk_fits.go lv none es else 2) := by rw [pleachref19_Wrong.j1, if_neg (by simp)]; exact hg
    by_cases h3 : lv = 0
    ·have h3' : ¬ lv > 0 := by omega
     rw [if_pos h3, if_neg h3']
     by_cases h4 : cs.length = 0
     ·have h5 : cs = [] := List.eq_nil_of_length_eq_zero h4
      have hcc : chunk_fits.counted lv es cs = true := by unfold chunk_fits.counted; rw [if_pos h3]; exact decide_eq_true h4
      rw [if_neg (by omega), hf, w0 (by rw [hcc]; simp; omega), h5, List.all_nil, if_pos rfl]
     ·have hcc : chunk_fits.counted lv es cs = false := by unfold chunk_fits.counted; rw [if_pos h3]; exact decide_eq_false h4
      rw [if_pos (by omega), hu, w2 (.inr (.inr (.inr hcc)))]
    ·have h3' : lv > 0 := by omega
     rw [if_neg h3, if_pos h3']
     have hcc : chunk_fits.counted lv es cs = ((cs.all fun n => decide (1 ≤ n ∧ n ≤ 2147483648)) && decide (cs.length = es.length ∧ 0 < es.length)) := by unfold chunk_fits.counted; rw [if_neg h3]
     by_cases h4 : es.length = 0
     ·rw [if_pos (by omega), hu, w2 (.inr (.inr (.inr (by rw [hcc, show decide (cs.length = es.length ∧ 0 < es.length) = false from decide_eq_false (fun z => by omega), Bool.and_false]))))]
     ·rw [if_neg (by omega)]
      by_cases h5 : cs.length = es.length
      ·rw [show ((cs.length : Int) != (es.length : Int)) = false from bne_eq_false_iff_eq.2 (by omega), hf]
       rw [show decide (cs.length = es.length ∧ 0 < es.length) = true from decide_eq_true ⟨h5, by omega⟩, Bool.and_true] at hcc
       cases ha : (cs.all fun n => decide (1 ≤ n ∧ n ≤ 2147483648)) with
       | true => rw [if_pos rfl, w0 (by rw [hcc, ha]; simp; omega)]
       | false => rw [if_neg (by simp), w2 (.inr (.inr (.inr (by rw [hcc, ha]))))]
      ·rw [show ((cs.length : Int) != (es.length : Int)) = true from bne_iff_ne.2 (by omega), hu, w2 (.inr (.inr (.inr (by rw [hcc, show decide (cs.length = es.length ∧ 0 < es.length) = false from decide_eq_false (fun z => by omega), Bool.and_false]))))]
theorem pleachref19_Take.ref_put_loop (lv : Int) (es : List S43) (cs : List Int) (hw : chunk_fits.wrong lv es cs = 0) (d : Nat) : ∀ (k i : Nat) (out : ByteArray), i + d = es.length → d < k → out.size ≤ 100 + i * 2200 →
    pleachref19_Put.l0 k out (i : Int) lv es cs = some (out ++ M.sb (chunk_fits.enc lv (es.drop i) (cs.drop i))) := by
 obtain ⟨hl0, hl1, hl8, hcn, hc0, hok⟩ := chunk_fits.wrong_ok hw
 induction d with
 | zero =>
  intro k i out hi hk ho
  obtain ⟨k, rfl⟩ : ∃ m, k = m + 1 := ⟨k - 1, by omega⟩
  rw [pleachref19_Put.l0, if_neg (by omega), List.drop_of_length_le (by omega)]
  congr 1
  exact M.bs_inj (by rw [M.bs_append]; simp [chunk_fits.enc, M.bs_sb])
 | succ d ih =>
  intro k i out hi hk ho
  obtain ⟨k, rfl⟩ : ∃ m, k = m + 1 := ⟨k - 1, by omega⟩
  have hlt : i < es.length := by omega
  have hrd : rd_T43 es (i : Int) = es[i] := by simp [rd_T43, List.getD, hlt]
  have he := hok es[i] (List.getElem_mem hlt)
  rw [pleachref19_Put.l0, if_pos (by omega), if_pos (by omega), hrd, List.drop_eq_getElem_cons hlt, M.wrap64_id (i := (i : Int) + 1) (by omega) (by omega), show (i : Int) + 1 = ((i + 1 : Nat) : Int) from by omega]
  generalize es[i] = e at he ⊢
  unfold chunk_fits.ok at he
  have he := of_decide_eq_true he
  have l1 := M.vb_le e.f0.size (by omega)
  unfold pleachref04_PutText.f
  rw [if_pos (by omega), Option.bind_some, if_pos (by simp only [M.size_append, M.size_sb]; omega)]
  by_cases hl : lv > 0
  ·rw [if_pos hl] at he
   have hil : i < cs.length := by rw [(hcn hl).1]; omega
   have hrc : rd cs (i : Int) = cs[i] := by simp [rd, List.getD, hil]
   have hcb := (hcn hl).2 cs[i] (List.getElem_mem hil)
   have l2 := M.vb_le cs[i].toNat (by omega)
   unfold pleachref04_PutNum.f
   rw [if_pos hl, if_pos (by simp only [M.size_append, M.size_sb]; omega), if_pos (by omega), hrc, if_pos (by omega), Option.bind_some, if_pos (by simp only [M.size_append, M.size_sb]; omega)]
   rw [ih k (i + 1) _ (by omega) (by omega) (by simp only [M.size_append, M.size_sb]; omega), List.drop_eq_getElem_cons hil]
   congr 1
   apply M.bs_inj
   simp only [chunk_fits.enc, M.bs_append, M.bs_sb, if_pos hl, List.headD_cons, List.tail_cons, List.append_assoc]
  ·rw [if_neg hl] at he
   have l3 := M.vb_le e.f1.size (by omega)
   have hcs : cs = [] := hc0 (by omega)
   rw [if_neg hl, if_pos (by omega), Option.bind_some]
   rw [if_pos (by simp only [M.size_append, M.size_sb]; omega)]
   rw [ih k (i + 1) _ (by omega) (by omega) (by simp only [M.size_append, M.size_sb]; omega)]
   congr 1
   apply M.bs_inj
   simp only [chunk_fits.enc, M.bs_append, M.bs_sb, if_neg hl, hcs, List.drop_nil, List.tail_nil, List.append_assoc]
theorem pleachref19_Take.ref_put (lv : Int) (es : List S43) (cs : List Int) (he : es.length ≤ 100) (hc : cs.length ≤ 100) (k : Nat) (hk : 500 ≤ k) : pleachref19_Put.f k lv es cs = some (if chunk_fits.wrong lv es cs = 0 then M.sb (chunk_fits.text lv es cs) else M.sb []) := by
 unfold pleachref19_Put.f
 rw [pleachref19_Take.ref_wrong lv es cs he hc k (by omega), Option.bind_some]
 by_cases hw : chunk_fits.wrong lv es cs = 0
 ·rw [if_pos hw, if_pos hw]
  obtain ⟨k, rfl⟩ : ∃ m, k = m + 1 := ⟨k - 1, by omega⟩
  obtain ⟨hl0, hl1, hl8, hcn, hc0, hok⟩ := chunk_fits.wrong_ok hw
  have lv' := M.vb_le lv.toNat (by omega)
  have le' := M.vb_le es.length (by omega)
  have hj : ∀ out : ByteArray, out.size ≤ 20 → pleachref19_Put.j0 (k + 1) out lv es cs = some (out ++ M.sb (M.vb es.length) ++ M.sb (chunk_fits.enc lv es cs)) := by
   intro out ho
   rw [pleachref19_Put.j0]
   unfold pleachref04_PutNum.f
   rw [if_pos (by omega), Option.bind_some, Int.toNat_natCast, M.size_sb, if_pos (by omega)]
   have := pleachref19_Take.ref_put_loop lv es cs hw es.length k 0 (out ++ M.sb (M.vb es.length)) (by omega) (by omega) (by rw [M.size_append, M.size_sb]; omega)
   rw [List.drop_zero, List.drop_zero] at this
   exact this
  by_cases hl : lv > 0
  ·rw [if_pos hl]
   unfold pleachref04_PutNum.f
   rw [if_pos (by omega), Option.bind_some, if_pos (by rw [M.size_sb]; omega), hj _ (by rw [M.size_append, M.size_sb]; show 1 + _ ≤ 20; omega)]
   congr 1
   apply M.bs_inj
   rw [show (⟨#[73]⟩ : ByteArray) = M.sb [73] from rfl]
   simp [chunk_fits.text, M.bs_append, M.bs_sb, if_pos hl]
  ·rw [if_neg hl, hj _ (by decide)]
   congr 1
   apply M.bs_inj
   rw [show (⟨#[76]⟩ : ByteArray) = M.sb [76] from rfl]
   simp [chunk_fits.text, M.bs_append, M.bs_sb, if_neg hl]
 ·rw [if_neg hw, if_neg hw]; rfl
def pleachref19_Take.rfin (s : ByteArray) (lv : Int) (r : List S43 × List Int × Int × Int) : Int × List S43 × List Int × Bool :=
  if r.2.2.2 = 0 ∧ (if chunk_fits.wrong lv r.1 r.2.1 = 0 then M.sb (chunk_fits.text lv r.1 r.2.1) else M.sb []) = s then (lv, r.1, r.2.1, true) else (0, [], [], false)
theorem pleachref19_Take.ref_take_loop (s : ByteArray) (hz : s.size ≤ 9223372036854775806) (lv n : Int) (hn : n ≤ 8) (d : Nat) : ∀ (k i : Nat) (p er : Int) (es : List S43) (cs : List Int), (i : Int) + d = n → d + 501 ≤ k → M.sok s p → es.length ≤ i → cs.length ≤ i →
    pleachref19_Take_p.l0 k s n (i : Int) lv es cs s p er = some (pleachref19_Take.rfin s lv (es ++ (chunk_fits.read s lv d p er).1, cs ++ (chunk_fits.read s lv d p er).2.1, (chunk_fits.read s lv d p er).2.2.1, (chunk_fits.read s lv d p er).2.2.2)) := by
 induction d with
 | zero =>
  intro k i p er es cs hi hk hs he hc
  obtain ⟨k, rfl⟩ : ∃ m, k = m + 1 := ⟨k - 1, by omega⟩
  rw [pleachref19_Take_p.l0, if_neg (by omega)]
  simp only [chunk_fits.read, List.append_nil]
  unfold pleachref19_Take.rfin
  by_cases h0 : er = 0
  ·rw [if_pos h0, pleachref19_Take.ref_put lv es cs (by omega) (by omega) k (by omega), Option.bind_some]
   by_cases h1 : (if chunk_fits.wrong lv es cs = 0 then M.sb (chunk_fits.text lv es cs) else M.sb []) = s
   ·rw [h1, if_pos rfl, if_pos ⟨h0, rfl⟩]
   ·rw [if_neg (fun z => h1 (M.bs_inj (by rw [← M.toList_bs, ← M.toList_bs]; exact z))), if_neg (fun z => h1 z.2)]
  ·rw [if_neg h0, if_neg (fun z => h0 z.1)]
 | succ d ih =>
  intro k i p er es cs hi hk hs he hc
  obtain ⟨k, rfl⟩ : ∃ m, k = m + 1 := ⟨k - 1, by omega⟩
  have hk := M.xtext_ok s er 64 hs
  have hi1 : wrap64 ((i : Int) + 1) = ((i + 1 : Nat) : Int) := by rw [M.wrap64_id (by omega) (by omega)]; omega
  rw [pleachref19_Take_p.l0, if_pos (by omega), hi1]
  unfold pleachref04_Text.f
  rw [if_pos ⟨hs, by decide, hz⟩, Option.bind_some]
  simp only
  by_cases hl : lv > 0
  ·have hv := M.xfix_ok s (M.xtext s p er 64).2.2 32 hk
   have hm := M.xnum_ok s (M.xfix s (M.xtext s p er 64).2.1 (M.xtext s p er 64).2.2 32).2.2 2147483648 hv
   unfold pleachref04_Fix.f pleachref04_fix.f pleachref04_Num.f
   rw [if_pos hl, if_pos ⟨hk, by decide, by decide⟩, Option.bind_some]
   simp only
   rw [if_pos ⟨hv, by decide, hz⟩, Option.bind_some]
   simp only
   rw [if_pos (by omega), if_pos (by omega), ih k (i + 1) _ _ _ _ (by omega) (by omega) hm (by simp; omega) (by simp; omega)]
   simp only [chunk_fits.read, if_pos hl, List.append_assoc, List.singleton_append]
  ·have hv := M.xtext_ok s (M.xtext s p er 64).2.2 2048 hk
   rw [if_neg hl]
   rw [if_pos ⟨hk, by decide, hz⟩, Option.bind_some]
   simp only
   rw [if_pos (by omega), ih k (i + 1) _ _ _ _ (by omega) (by omega) hv (by simp; omega) (by omega)]
   simp only [chunk_fits.read, if_neg hl, List.append_assoc, List.singleton_append]
theorem pleachref19_Take.ref_take (s : ByteArray) (hz : s.size ≤ 9223372036854775806) (k : Nat) (hk : 600 ≤ k) : ∃ lv p er, pleachref19_Take_p.f k s = some (pleachref19_Take.rfin s lv (chunk_fits.rest s lv p er)) ∧ M.sok s p ∧ (if (M.xbyte s 0 0).1 = 76 then lv = 0 ∧ (p, er) = (M.xbyte s 0 0).2 else (lv, p, er) = M.xnum s (M.xbyte s 0 0).2.1 (M.xbyte s 0 0).2.2 40) := by
 have h0 : M.sok s 0 := ⟨by decide, by omega, by omega⟩
 have hb := M.xbyte_ok s 0 h0
 have hl := M.xnum_ok s (M.xbyte s 0 0).2.2 40 hb
 obtain ⟨k, rfl⟩ : ∃ m, k = m + 1 := ⟨k - 1, by omega⟩
 have hj : ∀ (lv p er : Int), M.sok s p → pleachref19_Take_p.j0 (k + 1) s lv s p er = some (pleachref19_Take.rfin s lv (chunk_fits.rest s lv p er)) := by
  intro lv p er hs
  have hr := M.xnum_range s (er := er) hs (most := 8) (by decide) (by decide)
  rw [pleachref19_Take_p.j0]
  unfold pleachref04_Num.f
  rw [if_pos ⟨hs, by decide, hz⟩, Option.bind_some]
  have := pleachref19_Take.ref_take_loop s hz lv (M.xnum s p er 8).1 hr.2 (M.xnum s p er 8).1.toNat k 0 (M.xnum s p er 8).2.1 (M.xnum s p er 8).2.2 [] [] (by omega) (by omega) (M.xnum_ok s er 8 hs) (by simp) (by simp)
  simp only [List.nil_append] at this
  exact this
 unfold pleachref19_Take_p.f pleachref04_Byte.f
 rw [if_pos h0, Option.bind_some]
 simp only
 by_cases c1 : (M.xbyte s 0 0).1 = 76
 ·exact ⟨0, _, (M.xbyte s 0 0).2.2, by rw [if_pos c1]; exact hj _ _ _ hb, hb, by rw [if_pos c1]; exact ⟨rfl, rfl⟩⟩
 ·refine ⟨_, _, (M.xnum s (M.xbyte s 0 0).2.1 (M.xbyte s 0 0).2.2 40).2.2, ?_, hl, by rw [if_neg c1]⟩
  rw [if_neg c1]
  unfold pleachref04_Num.f
  rw [if_pos ⟨hb, by decide, hz⟩, Option.bind_some]
  exact hj _ _ _ hl
theorem pleachref19_Take.rfin_err {s : ByteArray} {lv : Int} {r : List S43 × List Int × Int × Int} (h : r.2.2.2 ≠ 0) : pleachref19_Take.rfin s lv r = (0, [], [], false) := by unfold pleachref19_Take.rfin; rw [if_neg (fun z => h z.1)]
theorem pleachref19_Take.rest_err {s : ByteArray} {lv p er : Int} (hs : M.sok s p) (h : er ≠ 0) : (chunk_fits.rest s lv p er).2.2.2 ≠ 0 := by
 intro z
 unfold chunk_fits.rest at z
 obtain ⟨e1, _⟩ := pleachref19_Take.read_span s lv _ _ _ (M.xnum_ok s er 8 hs) z
 exact h (M.xnum_span hs e1).1
theorem pleachref19_Take.fin_same {s : ByteArray} {lv p er : Int} {pre : List UInt8} (hs : M.sok s p) (hsp : er = 0 → M.span s 0 p pre) (ht : ∀ es cs, chunk_fits.wrong lv es cs = 0 → chunk_fits.text lv es cs = pre ++ (M.vb es.length ++ chunk_fits.enc lv es cs)) (hp : pre ≠ []) :
    (chunk_Take.fin s lv (chunk_fits.rest s lv p er) = (0, [], [], 3) ∧ pleachref19_Take.rfin s lv (chunk_fits.rest s lv p er) = (0, [], [], false)) ∨
    (chunk_fits.wrong lv (chunk_fits.rest s lv p er).1 (chunk_fits.rest s lv p er).2.1 = 0 ∧ chunk_Take.fin s lv (chunk_fits.rest s lv p er) = (lv, (chunk_fits.rest s lv p er).1, (chunk_fits.rest s lv p er).2.1, 0) ∧ pleachref19_Take.rfin s lv (chunk_fits.rest s lv p er) = (lv, (chunk_fits.rest s lv p er).1, (chunk_fits.rest s lv p er).2.1, true)) := by
 by_cases he : (chunk_fits.rest s lv p er).2.2.2 = 0
 ·have hm := M.xnum_ok s er 8 hs
  have he' := he
  unfold chunk_fits.rest at he'
  obtain ⟨e1, s1, l1⟩ := pleachref19_Take.read_span s lv _ _ _ hm he'
  obtain ⟨e0, s0, _, _⟩ := M.xnum_span hs e1
  rw [← l1] at s0
  have hall := M.span_trans (hsp e0) (M.span_trans s0 s1)
  change M.span s 0 (chunk_fits.rest s lv p er).2.2.1 (pre ++ (M.vb (chunk_fits.rest s lv p er).1.length ++ chunk_fits.enc lv (chunk_fits.rest s lv p er).1 (chunk_fits.rest s lv p er).2.1)) at hall
  generalize chunk_fits.rest s lv p er = r at he hall ⊢
  by_cases hw : chunk_fits.wrong lv r.1 r.2.1 = 0
  ·rw [← ht _ _ hw] at hall
   by_cases hq : (s.size : Int) ≤ r.2.2.1
   ·refine .inr ⟨hw, ?_, ?_⟩
    ·unfold chunk_Take.fin M.xend
     rw [if_pos]
     refine ⟨?_, hw⟩
     rw [if_neg (fun z => by have := z.2; omega)]; exact he
    ·unfold pleachref19_Take.rfin
     rw [if_pos]
     refine ⟨he, ?_⟩
     rw [if_pos hw]
     exact M.bs_inj (by rw [M.bs_sb, M.span_all hall hq])
   ·refine .inl ⟨?_, ?_⟩
    ·unfold chunk_Take.fin M.xend
     rw [if_neg]
     intro z
     have z1 := z.1
     rw [if_pos ⟨he, by omega⟩] at z1
     cases z1
    ·unfold pleachref19_Take.rfin
     rw [if_neg]
     intro z
     have z2 := z.2
     rw [if_pos hw] at z2
     have := M.span_end hall (by rw [← z2, M.bs_sb])
     omega
  ·refine .inl ⟨?_, ?_⟩
   ·unfold chunk_Take.fin
    rw [if_neg (fun z => hw z.2)]
   ·unfold pleachref19_Take.rfin
    rw [if_neg]
    intro z
    have z2 := z.2
    rw [if_neg hw] at z2
    obtain ⟨_, h1, h2⟩ := hall
    rw [← z2, M.bs_sb] at h2
    simp at h2
    exact hp h2.1
 ·refine .inl ⟨?_, pleachref19_Take.rfin_err he⟩
  unfold chunk_Take.fin
  rw [if_neg]
  intro z
  have z1 := z.1
  unfold M.xend at z1
  split at z1
  ·cases z1
  ·exact he z1
theorem pleachref19_Take.both (s : ByteArray) (hz : s.size ≤ 9223372036854775806) (k : Nat) (hk : 600 ≤ k) :
    (chunk_Take.res s = (0, [], [], 3) ∧ pleachref19_Take_p.f k s = some (0, [], [], false)) ∨
    (∃ lv es cs, chunk_fits.wrong lv es cs = 0 ∧ chunk_Take.res s = (lv, es, cs, 0) ∧ pleachref19_Take_p.f k s = some (lv, es, cs, true)) := by
 obtain ⟨lv, p, er, hf, hs, hc⟩ := pleachref19_Take.ref_take s (by omega) k hk
 have h0 : M.sok s 0 := ⟨by decide, by omega, by omega⟩
 have hb := M.xbyte_ok s 0 h0
 rw [hf]
 unfold chunk_Take.res
 by_cases c1 : (M.xbyte s 0 0).1 = 76
 ·rw [if_pos c1] at hc ⊢
  obtain ⟨rfl, hc⟩ := hc
  rw [Prod.ext_iff] at hc
  obtain ⟨rfl, rfl⟩ := hc
  have := pleachref19_Take.fin_same (s := s) (lv := 0) (p := (M.xbyte s 0 0).2.1) (er := (M.xbyte s 0 0).2.2) (pre := [76]) hs (fun e => by have := (M.xbyte_span h0 e).2.1; rw [c1] at this; exact this)
   (fun es cs _ => by unfold chunk_fits.text; rw [if_neg (by decide), List.append_assoc]) (by simp)
  rcases this with ⟨a, b⟩ | ⟨w, a, b⟩
  ·exact .inl ⟨a, by rw [b]⟩
  ·exact .inr ⟨_, _, _, w, a, by rw [b]⟩
 ·rw [if_neg c1] at hc ⊢
  by_cases c2 : (M.xbyte s 0 0).1 = 73
  ·rw [if_pos c2]
   rw [Prod.ext_iff, Prod.ext_iff] at hc
   obtain ⟨rfl, rfl, rfl⟩ := hc
   by_cases c3 : (M.xnum s (M.xbyte s 0 0).2.1 (M.xbyte s 0 0).2.2 40).1 = 0
   ·rw [if_pos c3]
    refine .inl ⟨rfl, ?_⟩
    congr 1
    unfold pleachref19_Take.rfin
    rw [if_neg]
    intro z
    obtain ⟨z1, z2⟩ := z
    have e1 : (M.xnum s (M.xbyte s 0 0).2.1 (M.xbyte s 0 0).2.2 40).2.2 = 0 := by
     rcases Decidable.em ((M.xnum s (M.xbyte s 0 0).2.1 (M.xbyte s 0 0).2.2 40).2.2 = 0) with g | g
     ·exact g
     ·exact absurd z1 (pleachref19_Take.rest_err hs g)
    obtain ⟨e2, s2, _, _⟩ := M.xnum_span hb e1
    obtain ⟨_, s1, _, _⟩ := M.xbyte_span h0 e2
    rw [c2] at s1
    obtain ⟨_, _, h3⟩ := s1
    rw [← z2] at h3
    split at h3
    ·unfold chunk_fits.text at h3
     rw [M.bs_sb, if_neg (by omega)] at h3
     simp at h3
    ·rw [M.bs_sb] at h3
     simp at h3
   ·rw [if_neg c3]
    have hr := M.xnum_range s (er := (M.xbyte s 0 0).2.2) hb (most := 40) (by decide) (by decide)
    have := pleachref19_Take.fin_same (s := s) (lv := (M.xnum s (M.xbyte s 0 0).2.1 (M.xbyte s 0 0).2.2 40).1) (p := (M.xnum s (M.xbyte s 0 0).2.1 (M.xbyte s 0 0).2.2 40).2.1) (er := (M.xnum s (M.xbyte s 0 0).2.1 (M.xbyte s 0 0).2.2 40).2.2) (pre := 73 :: M.vb (M.xnum s (M.xbyte s 0 0).2.1 (M.xbyte s 0 0).2.2 40).1.toNat) hs
     (fun e => by
      obtain ⟨e2, s2, _, _⟩ := M.xnum_span hb e
      obtain ⟨_, s1, _, _⟩ := M.xbyte_span h0 e2
      rw [c2] at s1
      exact M.span_trans s1 s2)
     (fun es cs _ => by unfold chunk_fits.text; rw [if_pos (by omega), List.append_assoc]) (by simp)
    rcases this with ⟨a, b⟩ | ⟨w, a, b⟩
    ·exact .inl ⟨a, by rw [b]⟩
    ·exact .inr ⟨_, _, _, w, a, by rw [b]⟩
  ·rw [if_neg c2]
   refine .inl ⟨rfl, ?_⟩
   congr 1
   rw [Prod.ext_iff, Prod.ext_iff] at hc
   obtain ⟨rfl, rfl, rfl⟩ := hc
   unfold pleachref19_Take.rfin
   rw [if_neg]
   intro z
   obtain ⟨z1, z2⟩ := z
   have e1 : (M.xnum s (M.xbyte s 0 0).2.1 (M.xbyte s 0 0).2.2 40).2.2 = 0 := by
    rcases Decidable.em ((M.xnum s (M.xbyte s 0 0).2.1 (M.xbyte s 0 0).2.2 40).2.2 = 0) with g | g
    ·exact g
    ·exact absurd z1 (pleachref19_Take.rest_err hs g)
   obtain ⟨e2, s2, _, _⟩ := M.xnum_span hb e1
   obtain ⟨_, s1, b0, b1⟩ := M.xbyte_span h0 e2
   obtain ⟨_, _, h3⟩ := s1
   have hz2 := congrArg M.bs z2.symm
   rw [hz2] at h3
   have hne : ∀ c : Nat, c < 256 → UInt8.ofNat (M.xbyte s 0 0).1.toNat = UInt8.ofNat c → (M.xbyte s 0 0).1 = c := by
    intro c hc e
    have := congrArg UInt8.toNat e
    rw [M.u8_toNat (by omega), M.u8_toNat hc] at this
    omega
   split at h3
   ·unfold chunk_fits.text at h3
    rw [M.bs_sb] at h3
    split at h3
    ·simp at h3
     exact c2 (hne 73 (by decide) h3.1.symm)
    ·simp at h3
     exact c1 (hne 76 (by decide) h3.1.symm)
   ·rw [M.bs_sb] at h3
    simp at h3
def pleachref19_Take.of (s : ByteArray) : Int × List S43 × List Int × Bool := if (chunk_Take.res s).2.2.2 = 0 then ((chunk_Take.res s).1, (chunk_Take.res s).2.1, (chunk_Take.res s).2.2.1, true) else (0, [], [], false)
def pleachref19_Take.f (s : ByteArray) : Option (Int × List S43 × List Int × Bool) := if s.size ≤ 9223372036854775806 then some (pleachref19_Take.of s) else none
theorem pleachref19_Take.ev (s : ByteArray) (r : Int × List S43 × List Int × Bool) (h : pleachref19_Take.f s = some r) : ∃ k, pleachref19_Take_p.f k s = some r := by
 unfold pleachref19_Take.f at h
 split at h
 case isFalse => cases h
 case isTrue hz =>
  obtain rfl := Option.some.inj h
  unfold pleachref19_Take.of
  rcases pleachref19_Take.both s hz 600 (Nat.le_refl _) with ⟨x, y⟩ | ⟨lv, es, cs, w, x, y⟩
  ·rw [x]; exact ⟨600, y⟩
  ·rw [x]; exact ⟨600, y⟩
theorem pleachref19_Take.calls (a0 : ByteArray) (r1 : Int) (r2 : List (S43)) (r3 : List Int) (r4 : Bool) (w : World) (h : pleachref19_Take.f a0 = some (r1, r2, r3, r4)) :
    Calls Tryd.prog 15 #[.string a0] w fun e w' => ∃ v1_ v2_ : Value, e = .returned (.tuple #[.agg #[.int .i64 r1, v1_, v2_], .bool r4]) ∧ Kd.R k43 43 w' w.heap.size (fun _ => True) v1_ r2 ∧ Kd.R (Kd.int .i64) 3 w' w.heap.size (fun _ => True) v2_ r3 ∧ Below w.heap.size w w' := by
 obtain ⟨k, hk⟩ := pleachref19_Take.ev _ _ h
 exact pleachref19_Take_p.calls (k := k) (w := w) (h := hk)
end Go.Proofs.YtkjbhgolillidaaDoor.EMarkNames
