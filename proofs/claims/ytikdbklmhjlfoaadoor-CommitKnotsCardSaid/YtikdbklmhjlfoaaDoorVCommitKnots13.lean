-- Laid by this session's own program (wip/tools/fold.py): this session's texts, cut to what the claim names and put together; Lean checks it.
import Derived.Test.YtikdbklmhjlfoaaDoorVCommitKnots1
import Derived.Test.YtikdbklmhjlfoaaDoorVCommitKnots11
import Derived.Test.YtikdbklmhjlfoaaDoorVCommitKnots12
import Derived.Test.YtikdbklmhjlfoaaDoorXCommitKnots1
namespace Go.Proofs.YtikdbklmhjlfoaaDoor.ECommitKnots
open Go.RowKit Go.Proofs.YtikdbklmhjlfoaaDoorW.PrintWords Go.Proofs.YtikdbklmhjlfoaaDoorW.PrintLast Go.Proofs.YtikdbklmhjlfoaaDoorW.PrintMore
attribute [local go_sem] M.run_leq M.run_gtr M.run_geq max2_int min2_int max_two min_two max_three min_three max_four min_four
set_option linter.unusedVariables false
set_option linter.unusedSimpArgs false
mutual
def pleachref35_Take_p.l0 : Nat → ByteArray → Int → Int → Int → Int → List ByteArray → ByteArray → ByteArray → ByteArray → Int → Int → Option (Int × List ByteArray × ByteArray × ByteArray × Bool)
  | 0, _, _, _, _, _, _, _, _, _, _, _ => none
  | k + 1, x0, x6, x7, x8, zaa, zab, zac, zad, zae, zaf, zag => if x8 < x7 then ((pleachref04_Fix.f zae zaf zag 32).bind fun bt325 => (if zab.length < 8796093022208 then (pleachref35_Take_p.l0 k x0 x6 x7 (wrap64 (x8 + 1)) zaa (zab ++ [bt325.2.2.2]) zac zad bt325.1 bt325.2.1 bt325.2.2.1) else (none))) else ((pleachref04_Fix.f zae zaf zag 32).bind fun bt333 => ((pleachref04_Text.f bt333.1 bt333.2.1 bt333.2.2.1 40).bind fun bt337 => (if bt337.2.2.1 = 0 then (if x6 = 67 then ((pleachref35_Put.f zaa zab bt333.2.2.2 bt337.2.2.2).bind fun t341 => (if t341.toList = x0.toList then (pleachref35_Take_p.j1 k (x0.toList == ([] : List UInt8)) zaa zab bt333.2.2.2 bt337.2.2.2) else (pleachref35_Take_p.j1 k true zaa zab bt333.2.2.2 bt337.2.2.2))) else (pleachref35_Take_p.j1 k true zaa zab bt333.2.2.2 bt337.2.2.2)) else (pleachref35_Take_p.j1 k true zaa zab bt333.2.2.2 bt337.2.2.2))))
def pleachref35_Take_p.j1 : Nat → Bool → Int → List ByteArray → ByteArray → ByteArray → Option (Int × List ByteArray × ByteArray × ByteArray × Bool)
  | 0, _, _, _, _, _ => none
  | k + 1, x73, zaa, zab, zac, zad => if x73 = true then (some (0, ([] : List ByteArray), (⟨#[]⟩ : ByteArray), (⟨#[]⟩ : ByteArray), false)) else (some (zaa, zab, zac, zad, true))
end
def pleachref35_Take_p.f (k : Nat) (a0 : ByteArray) : Option (Int × List ByteArray × ByteArray × ByteArray × Bool) := (pleachref04_Byte.f a0 0 0).bind fun bt312 => ((pleachref04_Num.f bt312.1 bt312.2.1 bt312.2.2.1 4294967295).bind fun bt317 => ((pleachref04_Num.f bt317.1 bt317.2.1 bt317.2.2.1 2).bind fun bt321 => (pleachref35_Take_p.l0 k a0 bt312.2.2.2 bt321.2.2.2 0 bt317.2.2.2 ([] : List ByteArray) (⟨#[]⟩ : ByteArray) (⟨#[]⟩ : ByteArray) bt321.1 bt321.2.1 bt321.2.2.1)))
theorem pleachref35_Take_p.mono_l : ∀ k, (∀ y0 y1 y2 y3 y4 y5 y6 y7 y8 y9 y10, LeO (pleachref35_Take_p.l0 k y0 y1 y2 y3 y4 y5 y6 y7 y8 y9 y10) (pleachref35_Take_p.l0 (k + 1) y0 y1 y2 y3 y4 y5 y6 y7 y8 y9 y10)) ∧ (∀ y0 y1 y2 y3 y4, LeO (pleachref35_Take_p.j1 k y0 y1 y2 y3 y4) (pleachref35_Take_p.j1 (k + 1) y0 y1 y2 y3 y4))
  | 0 => ⟨fun _ _ _ _ _ _ _ _ _ _ _ r h => by simp [pleachref35_Take_p.l0] at h, fun _ _ _ _ _ r h => by simp [pleachref35_Take_p.j1] at h⟩
  | k + 1 => by
    obtain ⟨ih0, ih1⟩ := pleachref35_Take_p.mono_l k
    refine ⟨?_, ?_⟩
    · intro y0 y1 y2 y3 y4 y5 y6 y7 y8 y9 y10
      unfold pleachref35_Take_p.l0
      repeat' first
      | (with_reducible exact ih0 _ _ _ _ _ _ _ _ _ _ _)
      | (with_reducible exact ih1 _ _ _ _ _)
      | (with_reducible exact LeO.refl _)
      | (with_reducible exact LeO.none _)
      | (with_reducible refine LeO.ite ?_ ?_)
      | (with_reducible refine LeO.bind ?_ (fun _ => ?_))
      | exact ih0 _ _ _ _ _ _ _ _ _ _ _
      | exact ih1 _ _ _ _ _
      | exact LeO.none _
      | refine LeO.ite ?_ ?_
      | refine LeO.bind ?_ (fun _ => ?_)
    · intro y0 y1 y2 y3 y4
      unfold pleachref35_Take_p.j1
      repeat' first
      | (with_reducible exact ih0 _ _ _ _ _ _ _ _ _ _ _)
      | (with_reducible exact ih1 _ _ _ _ _)
      | (with_reducible exact LeO.refl _)
      | (with_reducible exact LeO.none _)
      | (with_reducible refine LeO.ite ?_ ?_)
      | (with_reducible refine LeO.bind ?_ (fun _ => ?_))
      | exact ih0 _ _ _ _ _ _ _ _ _ _ _
      | exact ih1 _ _ _ _ _
      | exact LeO.none _
      | refine LeO.ite ?_ ?_
      | refine LeO.bind ?_ (fun _ => ?_)
theorem pleachref35_Take_p.mono : ∀ a0 k, LeO (pleachref35_Take_p.f k a0) (pleachref35_Take_p.f (k + 1) a0) := by
  intro a0 k
  obtain ⟨ih0, ih1⟩ := pleachref35_Take_p.mono_l k
  unfold pleachref35_Take_p.f
  repeat' first
      | (with_reducible exact ih0 _ _ _ _ _ _ _ _ _ _ _)
      | (with_reducible exact ih1 _ _ _ _ _)
      | (with_reducible exact LeO.refl _)
      | (with_reducible exact LeO.none _)
      | (with_reducible refine LeO.ite ?_ ?_)
      | (with_reducible refine LeO.bind ?_ (fun _ => ?_))
      | exact ih0 _ _ _ _ _ _ _ _ _ _ _
      | exact ih1 _ _ _ _ _
      | exact LeO.none _
      | refine LeO.ite ?_ ?_
      | refine LeO.bind ?_ (fun _ => ?_)
set_option maxHeartbeats 8000000 in
set_option maxRecDepth 100000 in
theorem pleachref35_Take_p.calls (k : Nat) (a0 : ByteArray) (r1 : Int) (r2 : List ByteArray) (r3 : ByteArray) (r4 : ByteArray) (r5 : Bool) (w : World) (h : pleachref35_Take_p.f k a0 = some (r1, r2, r3, r4, r5)) :
    Calls Tryd.prog 10 #[.string a0] w fun e w' => ∃ v1_ : Value, e = .returned (.tuple #[.agg #[.int .i64 r1, v1_, .string r3, .string r4], .bool r5]) ∧ Kd.R Kd.string 9 w' w.heap.size (fun _ => True) v1_ r2 ∧ Below w.heap.size w w' := by
 have hu24 := Tryd.underlying24
 have hu70 := Tryd.underlying70
 have HB := Aside0.mk (Below.refl w.heap.size w)
 have H : ((pleachref04_Byte.f a0 0 0).bind fun bt312 => ((pleachref04_Num.f bt312.1 bt312.2.1 bt312.2.2.1 4294967295).bind fun bt317 => ((pleachref04_Num.f bt317.1 bt317.2.1 bt317.2.2.1 2).bind fun bt321 => (pleachref35_Take_p.l0 k a0 bt312.2.2.2 bt321.2.2.2 0 bt317.2.2.2 ([] : List ByteArray) (⟨#[]⟩ : ByteArray) (⟨#[]⟩ : ByteArray) bt321.1 bt321.2.1 bt321.2.2.1)))) = some (r1, r2, r3, r4, r5) := h
 clear h
 replace H := Option.bind_eq_some_iff.mp H
 obtain ⟨⟨t312, t313, t314, t315⟩, A20, H⟩ := H
 replace H : ((pleachref04_Num.f t312 t313 t314 4294967295).bind fun bt317 => ((pleachref04_Num.f bt317.1 bt317.2.1 bt317.2.2.1 2).bind fun bt321 => (pleachref35_Take_p.l0 k a0 t315 bt321.2.2.2 0 bt317.2.2.2 ([] : List ByteArray) (⟨#[]⟩ : ByteArray) (⟨#[]⟩ : ByteArray) bt321.1 bt321.2.1 bt321.2.2.1))) = some (r1, r2, r3, r4, r5) := H
 have A2 := Aside0.mk A20
 clear A20
 replace H := Option.bind_eq_some_iff.mp H
 obtain ⟨⟨t317, t318, t319, t320⟩, A30, H⟩ := H
 replace H : ((pleachref04_Num.f t317 t318 t319 2).bind fun bt321 => (pleachref35_Take_p.l0 k a0 t315 bt321.2.2.2 0 t320 ([] : List ByteArray) (⟨#[]⟩ : ByteArray) (⟨#[]⟩ : ByteArray) bt321.1 bt321.2.1 bt321.2.2.1)) = some (r1, r2, r3, r4, r5) := H
 have A3 := Aside0.mk A30
 clear A30
 replace H := Option.bind_eq_some_iff.mp H
 obtain ⟨⟨t321, t322, t323, t324⟩, A40, H⟩ := H
 replace H : (pleachref35_Take_p.l0 k a0 t315 t324 0 t320 ([] : List ByteArray) (⟨#[]⟩ : ByteArray) (⟨#[]⟩ : ByteArray) t321 t322 t323) = some (r1, r2, r3, r4, r5) := H
 have A4 := Aside0.mk A40
 clear A40
 have H' := Aside0.mk H
 clear H
 go_enter Tryd.func10, Tryd.ntmps10
 go_wp2_with (first | ((with_reducible refine gate_dst (N := 2) rfl ?_); refine M.bx 2 24 (#[.int .i64 0, .slice none 0 0, .string (⟨#[]⟩ : ByteArray), .string (⟨#[]⟩ : ByteArray)]) ?_; intro zah hg w5 hbox hb; have zai := Aside0.mk (hbox); have zaj := M.upG HB hg; have zak := M.upG HB hg; replace HB := M.upS HB hb; clear hb hbox hg) | ((with_reducible refine gate_dst (N := 4) rfl ?_); refine M.bx 4 24 (#[.int .i64 0, .slice none 0 0, .string (⟨#[]⟩ : ByteArray), .string (⟨#[]⟩ : ByteArray)]) ?_; intro zal hg w6 hbox hb; have zam := Aside0.mk (hbox); have zan := M.upG HB hg; have zao := M.upG HB hg; replace HB := M.upS HB hb; have zap := M.bkL zai hg; have zaq := M.bkG zai hg; replace zai := M.bkB zai hb; clear hb hbox hg) | ((with_reducible refine gate_callee (f := 36) rfl ?_); refine M.goes (some 14) Tryd.func36 #[.agg #[.string a0, .int .i64 0, .int .i64 0]] rfl ?_; (with_reducible refine (pleachref04_Byte.calls a0 0 0 t312 t313 t314 t315 _ A2.out).mono ?_); rintro e w7 ⟨rfl, hb⟩; refine ⟨_, rfl, ?_⟩; replace zai := M.bkB zai hb; replace zam := M.bkB zam hb; replace HB := M.upS HB hb; (try clear hb)) | ((with_reducible refine gate_dst (N := 5) rfl ?_); refine M.bx 5 70 (#[.string (⟨#[]⟩ : ByteArray), .int .i64 0, .int .i64 0]) ?_; intro zar hg w8 hbox hb; have zas := Aside0.mk (hbox); have zat := M.upG HB hg; have zau := M.upG HB hg; replace HB := M.upS HB hb; have zav := M.bkL zai hg; have zaw := M.bkG zai hg; replace zai := M.bkB zai hb; have zax := M.bkL zam hg; have zay := M.bkG zam hg; replace zam := M.bkB zam hb; clear hb hbox hg; have zaz := zaw.out; have zaA := zav.out; have zaB := zay.out; have zaC := zax.out; obtain ⟨zaD, zaE, zaF⟩ := M.bc3 (w := w8) (a := .string (⟨#[]⟩ : ByteArray)) (b := .int .i64 0) (c := .int .i64 0) zas.out; obtain ⟨zaG, zaH, zaI⟩ := M.bf3 zas) | ((with_reducible refine gate_callee (f := 37) rfl ?_); refine M.goes (some 19) Tryd.func37 #[.agg #[.string t312, .int .i64 t313, .int .i64 t314], .int .i64 4294967295] rfl ?_; (with_reducible refine (pleachref04_Num.calls t312 t313 t314 4294967295 t317 t318 t319 t320 _ A3.out).mono ?_); rintro e w12 ⟨rfl, hb⟩; refine ⟨_, rfl, ?_⟩; replace zai := Aside0.mk (blk_below (g := zah) (o := .cells #[.int .i64 0, .slice none 0 0, .string (⟨#[]⟩ : ByteArray), .string (⟨#[]⟩ : ByteArray)] 24 (0, 0)) (by refine M.fr ?_ zav; refine M.fr ?_ zav; refine M.fr ?_ zav; exact M.bk zai) hb); replace zam := Aside0.mk (blk_below (g := zal) (o := .cells #[.int .i64 0, .slice none 0 0, .string (⟨#[]⟩ : ByteArray), .string (⟨#[]⟩ : ByteArray)] 24 (0, 0)) (by refine M.fr ?_ zax; refine M.fr ?_ zax; refine M.fr ?_ zax; exact M.bk zam) hb); replace zas := Aside0.mk (blk_below (g := zar) (o := .cells #[.string t312, .int .i64 t313, .int .i64 t314] 70 (0, 0)) (by refine M.fp (cs := #[.string t312, .int .i64 t313, .int .i64 0]) ?_ 2; refine M.fp (cs := #[.string t312, .int .i64 0, .int .i64 0]) ?_ 1; refine M.fp (cs := #[.string (⟨#[]⟩ : ByteArray), .int .i64 0, .int .i64 0]) ?_ 0; exact M.bk zas) hb); replace HB := M.upS HB hb; (try clear hb); obtain ⟨zaJ, zaK, zaL⟩ := M.bc3 (w := w12) (a := .string t312) (b := .int .i64 t313) (c := .int .i64 t314) zas.out; obtain ⟨zaM, zaN, zaO⟩ := M.bf3 zas; have zaP := zaq.out; have zaQ := zap.out; have zaR : w12.cell? ⟨zal, 0, none⟩ = some (.int .i64 0) := (blk_cell zam.out 0).trans rfl; have zaS : w12.cell? ⟨zal, 1, none⟩ = some (.slice none 0 0) := (blk_cell zam.out 1).trans rfl; have zaT : w12.cell? ⟨zal, 2, none⟩ = some (.string (⟨#[]⟩ : ByteArray)) := (blk_cell zam.out 2).trans rfl; have zaU : w12.cell? ⟨zal, 3, none⟩ = some (.string (⟨#[]⟩ : ByteArray)) := (blk_cell zam.out 3).trans rfl; have zaV := blk_frozen zam.out 0; have zaW := blk_frozen zam.out 1; have zaX := blk_frozen zam.out 2; have zaY := blk_frozen zam.out 3) | ((with_reducible refine gate_callee (f := 37) rfl ?_); refine M.goes (some 25) Tryd.func37 #[.agg #[.string t317, .int .i64 t318, .int .i64 t319], .int .i64 2] rfl ?_; (with_reducible refine (pleachref04_Num.calls t317 t318 t319 2 t321 t322 t323 t324 _ A4.out).mono ?_); rintro e w16 ⟨rfl, hb⟩; refine ⟨_, rfl, ?_⟩; replace zai := Aside0.mk (blk_below (g := zah) (o := .cells #[.int .i64 0, .slice none 0 0, .string (⟨#[]⟩ : ByteArray), .string (⟨#[]⟩ : ByteArray)] 24 (0, 0)) (by refine M.fr ?_ zap; refine M.fr ?_ zav; refine M.fr ?_ zav; refine M.fr ?_ zav; exact M.bk zai) hb); replace zam := Aside0.mk (blk_below (g := zal) (o := .cells #[.int .i64 t320, .slice none 0 0, .string (⟨#[]⟩ : ByteArray), .string (⟨#[]⟩ : ByteArray)] 24 (0, 0)) (by refine M.fp (cs := #[.int .i64 0, .slice none 0 0, .string (⟨#[]⟩ : ByteArray), .string (⟨#[]⟩ : ByteArray)]) ?_ 0; refine M.fr ?_ zax; refine M.fr ?_ zax; refine M.fr ?_ zax; exact M.bk zam) hb); replace zas := Aside0.mk (blk_below (g := zar) (o := .cells #[.string t317, .int .i64 t318, .int .i64 t319] 70 (0, 0)) (by refine M.fr ?_ zay; refine M.fp (cs := #[.string t317, .int .i64 t318, .int .i64 t314]) ?_ 2; refine M.fp (cs := #[.string t317, .int .i64 t313, .int .i64 t314]) ?_ 1; refine M.fp (cs := #[.string t312, .int .i64 t313, .int .i64 t314]) ?_ 0; exact M.bk zas) hb); replace HB := M.upS HB hb; (try clear hb); obtain ⟨zaZ, za0, za1⟩ := M.bc3 (w := w16) (a := .string t317) (b := .int .i64 t318) (c := .int .i64 t319) zas.out; obtain ⟨za2, za3, za4⟩ := M.bf3 zas))
 go_loopg [8] k (fun kq v8 w' => ∃ (x8_1 : Int) (za5 : List ByteArray) (za6 : ByteArray) (za7 : Int) (za8 : Int) (za9 : Value), v8 = .int .i64 x8_1 ∧ Aside0 (pleachref35_Take_p.l0 kq a0 t315 t324 x8_1 t320 za5 (⟨#[]⟩ : ByteArray) (⟨#[]⟩ : ByteArray) za6 za7 za8 = some (r1, r2, r3, r4, r5)) ∧ Aside0 (kq ≤ k) ∧ Aside0 (Kd.R Kd.string 9 w' w.heap.size (fun _ => True) za9 za5) ∧ Aside0 (w'.heap[zah]? = some (.cells #[.int .i64 0, (.slice none 0 0), .string (⟨#[]⟩ : ByteArray), .string (⟨#[]⟩ : ByteArray)] 24 (0, 0))) ∧ Aside0 (w'.heap[zal]? = some (.cells #[.int .i64 t320, za9, .string (⟨#[]⟩ : ByteArray), .string (⟨#[]⟩ : ByteArray)] 24 (0, 0))) ∧ Aside0 (w'.heap[zar]? = some (.cells #[.string za6, .int .i64 za7, .int .i64 za8] 70 (0, 0))) ∧ Aside0 (Below w.heap.size w w'))
 case atStart => exact ⟨(0), (([] : List ByteArray)), (t321), (t322), (t323), (.slice none 0 0), M.eqv, H', ⟨Nat.le_refl _⟩, ⟨M.nl⟩, ⟨by refine M.fr ?_ zav; refine M.fr ?_ zav; refine M.fr ?_ zav; exact M.bk zai⟩, ⟨by refine M.fr ?_ zax; refine M.fr ?_ zax; refine M.fr ?_ zax; exact M.bk zam⟩, ⟨by refine M.fp (cs := #[.string t321, .int .i64 t322, .int .i64 t319]) ?_ 2; refine M.fp (cs := #[.string t321, .int .i64 t318, .int .i64 t319]) ?_ 1; refine M.fp (cs := #[.string t317, .int .i64 t318, .int .i64 t319]) ?_ 0; exact M.bk zas⟩, ⟨M.up HB⟩⟩
 case round =>
  clear H'
  (try clear c1); (try clear p2); (try clear c3); (try clear c9); (try clear c10); (try clear c14); (try clear zaD); (try clear zaE); (try clear zaF); (try clear zaJ); (try clear zaK); (try clear zaL); (try clear zaR); (try clear zaS); (try clear zaT); (try clear zaU); (try clear zaZ); (try clear za0); (try clear za1); (try clear zaG); (try clear zaH); (try clear zaI); (try clear zaM); (try clear zaN); (try clear zaO); (try clear zaV); (try clear zaW); (try clear zaX); (try clear zaY); (try clear za2); (try clear za3); (try clear za4)
  obtain ⟨x8_1, za5, za6, za7, za8, za9, rfl, HA, HK1, zba, zai, zam, zas, HB⟩ := hrel
  cases gk with
  | zero => exact absurd HA.out (by simp [pleachref35_Take_p.l0])
  | succ k1 =>
   have H := HA.out
   clear HA
   simp only [pleachref35_Take_p.l0] at H
   by_cases c18 : x8_1 < t324
   ·rw [if_pos c18] at H
    have c18b0 := decide_eq_true c18
    clear c18
    replace H := Option.bind_eq_some_iff.mp H
    obtain ⟨⟨t325, t326, t327, t328⟩, A190, H⟩ := H
    replace H : (if za5.length < 8796093022208 then (pleachref35_Take_p.l0 k1 a0 t315 t324 (wrap64 (x8_1 + 1)) t320 (za5 ++ [t328]) (⟨#[]⟩ : ByteArray) (⟨#[]⟩ : ByteArray) t325 t326 t327) else (none)) = some (r1, r2, r3, r4, r5) := H
    have A19 := Aside0.mk A190
    clear A190
    by_cases c20 : za5.length < 8796093022208
    ·rw [if_pos c20] at H
     have LMc20 := Aside0.mk c20
     clear c20
     obtain ⟨y330, hy330⟩ : ∃ y_ : List ByteArray, y_ = (za5 ++ [t328]) := ⟨_, rfl⟩
     replace H : (pleachref35_Take_p.l0 k1 a0 t315 t324 (wrap64 (x8_1 + 1)) t320 y330 (⟨#[]⟩ : ByteArray) (⟨#[]⟩ : ByteArray) t325 t326 t327) = some (r1, r2, r3, r4, r5) := by first | (rw [hy330]; with_reducible exact H) | (have H2_ := (Option.bind_some _ _).symm.trans H; rw [hy330]; with_reducible exact H2_) | (have H2_ := (Option.bind_some _ _).symm.trans H; with_reducible exact H2_) | with_reducible exact H | (rw [hy330]; exact H) | exact H
     have Ny330 := Aside0.mk hy330
     clear hy330
     have H' := Aside0.mk H
     clear H
     have zbb := zaw.out
     have zbc := zav.out
     have zbd := zay.out
     have zbe := zax.out
     obtain ⟨zbf, zbg, zbh⟩ := M.bc3 (w := wr) (a := .string za6) (b := .int .i64 za7) (c := .int .i64 za8) zas.out
     obtain ⟨zbi, zbj, zbk⟩ := M.bf3 zas
     go_wp2_with (first | ((with_reducible refine gate_callee (f := 38) rfl ?_); refine M.goes (some 35) Tryd.func38 #[.agg #[.string za6, .int .i64 za7, .int .i64 za8], .int .i64 32] rfl ?_; (with_reducible refine (pleachref04_Fix.calls za6 za7 za8 32 t325 t326 t327 t328 _ A19.out).mono ?_); rintro e w24 ⟨rfl, hb⟩; refine ⟨_, rfl, ?_⟩; replace zba := M.roB zba hb; replace zai := M.bkB zai hb; replace zam := M.bkB zam hb; replace zas := M.bkB zas hb; replace HB := M.upS HB hb; (try clear hb)) | ((with_reducible refine gate_dst (N := 9) rfl ?_); refine M.bx 9 70 (#[.string (⟨#[]⟩ : ByteArray), .int .i64 0, .int .i64 0]) ?_; intro zbl hg w25 hbox hb; replace zba := M.roB zba hb; have zbm := Aside0.mk (hbox); have zbn := M.upG HB hg; have zbo := M.upG HB hg; replace HB := M.upS HB hb; have zbp := M.bkL zai hg; have zbq := M.bkG zai hg; replace zai := M.bkB zai hb; have zbr := M.bkL zam hg; have zbs := M.bkG zam hg; replace zam := M.bkB zam hb; have zbt := M.bkL zas hg; have zbu := M.bkG zas hg; replace zas := M.bkB zas hb; clear hb hbox hg; have zbv := zbq.out; have zbw := zbp.out; have zbx := zbs.out; have zby := zbr.out; have zbz := zbu.out; have zbA := zbt.out; obtain ⟨zbB, zbC, zbD⟩ := M.bc3 (w := w25) (a := .string (⟨#[]⟩ : ByteArray)) (b := .int .i64 0) (c := .int .i64 0) zbm.out; obtain ⟨zbE, zbF, zbG⟩ := M.bf3 zbm; obtain ⟨zbH, zbI, zbJ⟩ := M.bc3 (w := w25) (a := .string za6) (b := .int .i64 za7) (c := .int .i64 za8) zas.out; obtain ⟨zbK, zbL, zbM⟩ := M.bf3 zas; have zbN := zaq.out; have zbO := zap.out; have zbP : w25.cell? ⟨zal, 0, none⟩ = some (.int .i64 t320) := (blk_cell zam.out 0).trans rfl; have zbQ : w25.cell? ⟨zal, 1, none⟩ = some (za9) := (blk_cell zam.out 1).trans rfl; have zbR : w25.cell? ⟨zal, 2, none⟩ = some (.string (⟨#[]⟩ : ByteArray)) := (blk_cell zam.out 2).trans rfl; have zbS : w25.cell? ⟨zal, 3, none⟩ = some (.string (⟨#[]⟩ : ByteArray)) := (blk_cell zam.out 3).trans rfl; have zbT := blk_frozen zam.out 0; have zbU := blk_frozen zam.out 1; have zbV := blk_frozen zam.out 2; have zbW := blk_frozen zam.out 3) | ((with_reducible refine gate_builtin (b := .append) (xs := #[.tmp 40, .tmp 42]) rfl ?_); at_builtin; refine Kd.R_append Kd.string (w0 := w) w.heap.size rfl (.tmp 40) (.tmp 42) 22 9 (.string ⟨#[]⟩) 16 rfl Tryd.underlying22 info9 rfl (by decide) (by omega) za9 za5 t328 [.string t328] (fun _ => True) (fun _ => False) rfl (by first | (go_simp; done) | (go_simp; rfl)) ?aP (fun _ hk => hk.elim) ?aF ?aO ?aB ?aS ?aL ?_; (case aP => exact rfl); (case aB => exact (M.up HB)); (case aF => exact (fun _ _ => trivial)); (case aO => exact (by (with_reducible repeat (first | apply Kd.R_alloc | apply Kd.R_drewN | apply Kd.R_drew)); exact Kd.R_mono (Kd.R_far (p := ⟨zar, 2, none⟩) (Kd.R_far (p := ⟨zar, 1, none⟩) (Kd.R_far (p := ⟨zar, 0, none⟩) (Kd.R_far (p := ⟨zbl, 2, none⟩) (Kd.R_far (p := ⟨zbl, 1, none⟩) (Kd.R_far (p := ⟨zbl, 0, none⟩) (Kd.R_types (Kd.R_types zba.out zbm.out (by decide)) zas.out (by decide)) (fun _ hk => hk.1.2) (.string t325)) (fun _ hk => hk.1.2) (.int .i64 t326)) (fun _ hk => hk.1.2) (.int .i64 t327)) (fun _ hk => hk.2) (.string t325)) (fun _ hk => hk.2) (.int .i64 t326)) (fun _ hk => hk.2) (.int .i64 t327)) (fun _ hk => trivial))); (case aS => exact (below_size (M.up HB))); (case aL => have := LMc20.out; omega); intro v331 w33 ho hb hg hat; rw [← Ny330.out] at ho; replace zai := Aside0.mk (blk_grown (g := zah) (o := .cells #[.int .i64 0, .slice none 0 0, .string (⟨#[]⟩ : ByteArray), .string (⟨#[]⟩ : ByteArray)] 24 (0, 0)) (by refine M.fr ?_ zav; refine M.fr ?_ zav; refine M.fr ?_ zav; refine M.fr ?_ zbp; refine M.fr ?_ zbp; refine M.fr ?_ zbp; exact M.bk zai) hg (Kd.R_ne zba.out zai.out (by decide))); replace zam := Aside0.mk (blk_grown (g := zal) (o := .cells #[.int .i64 t320, za9, .string (⟨#[]⟩ : ByteArray), .string (⟨#[]⟩ : ByteArray)] 24 (0, 0)) (by refine M.fr ?_ zax; refine M.fr ?_ zax; refine M.fr ?_ zax; refine M.fr ?_ zbr; refine M.fr ?_ zbr; refine M.fr ?_ zbr; exact M.bk zam) hg (Kd.R_ne zba.out zam.out (by decide))); replace zas := Aside0.mk (blk_grown (g := zar) (o := .cells #[.string t325, .int .i64 t326, .int .i64 t327] 70 (0, 0)) (by refine M.fp (cs := #[.string t325, .int .i64 t326, .int .i64 za8]) ?_ 2; refine M.fp (cs := #[.string t325, .int .i64 za7, .int .i64 za8]) ?_ 1; refine M.fp (cs := #[.string za6, .int .i64 za7, .int .i64 za8]) ?_ 0; refine M.fr ?_ zbt; refine M.fr ?_ zbt; refine M.fr ?_ zbt; exact M.bk zas) hg (Kd.R_ne zba.out zas.out (by decide))); replace zbm := Aside0.mk (blk_grown (g := zbl) (o := .cells #[.string t325, .int .i64 t326, .int .i64 t327] 70 (0, 0)) (by refine M.fr ?_ zbu; refine M.fr ?_ zbu; refine M.fr ?_ zbu; refine M.fp (cs := #[.string t325, .int .i64 t326, .int .i64 0]) ?_ 2; refine M.fp (cs := #[.string t325, .int .i64 0, .int .i64 0]) ?_ 1; refine M.fp (cs := #[.string (⟨#[]⟩ : ByteArray), .int .i64 0, .int .i64 0]) ?_ 0; exact M.bk zbm) hg (Kd.R_ne zba.out zbm.out (by decide))); replace HB := Aside0.mk (hb); have HO332 := Aside0.mk (ho); clear zba; clear ho hb hg hat; obtain ⟨Ao34, co34, eo34⟩ := Kd.R_slice HO332.out; subst eo34; have zbX : w33.cell? ⟨zal, 0, none⟩ = some (.int .i64 t320) := (blk_cell zam.out 0).trans rfl; have zbY : w33.cell? ⟨zal, 1, none⟩ = some (za9) := (blk_cell zam.out 1).trans rfl; have zbZ : w33.cell? ⟨zal, 2, none⟩ = some (.string (⟨#[]⟩ : ByteArray)) := (blk_cell zam.out 2).trans rfl; have zb0 : w33.cell? ⟨zal, 3, none⟩ = some (.string (⟨#[]⟩ : ByteArray)) := (blk_cell zam.out 3).trans rfl; have zb1 := blk_frozen zam.out 0; have zb2 := blk_frozen zam.out 1; have zb3 := blk_frozen zam.out 2; have zb4 := blk_frozen zam.out 3))
     go_roundg k1
     case measure => have := HK1.out; omega
     case rel => exact ⟨(wrap64 (x8_1 + 1)), (y330), (t325), (t326), (t327), (.slice Ao34 y330.length co34), M.eqv, H', ⟨by have := HK1.out; omega⟩, ⟨by (with_reducible repeat (first | apply Kd.R_alloc | apply Kd.R_drewN | apply Kd.R_drew)); exact Kd.R_mono (Kd.R_far (p := ⟨zal, 1, none⟩) (Kd.R_types HO332.out zam.out (by decide)) (fun _ hk => hk.2) (.slice Ao34 y330.length co34)) (fun _ hk => trivial)⟩, ⟨by refine M.fr ?_ zap; exact M.bk zai⟩, ⟨by refine M.fp (cs := #[.int .i64 t320, za9, .string (⟨#[]⟩ : ByteArray), .string (⟨#[]⟩ : ByteArray)]) ?_ 1; exact M.bk zam⟩, ⟨by refine M.fr ?_ zay; exact M.bk zas⟩, ⟨M.up HB⟩⟩
    ·exact M.nf c20 H
   ·rw [if_neg c18] at H
    have c18b0 := decide_eq_false c18
    clear c18
    replace H := Option.bind_eq_some_iff.mp H
    obtain ⟨⟨t333, t334, t335, t336⟩, A360, H⟩ := H
    replace H : ((pleachref04_Text.f t333 t334 t335 40).bind fun bt337 => (if bt337.2.2.1 = 0 then (if t315 = 67 then ((pleachref35_Put.f t320 za5 t336 bt337.2.2.2).bind fun t341 => (if t341.toList = a0.toList then (pleachref35_Take_p.j1 k1 (a0.toList == ([] : List UInt8)) t320 za5 t336 bt337.2.2.2) else (pleachref35_Take_p.j1 k1 true t320 za5 t336 bt337.2.2.2))) else (pleachref35_Take_p.j1 k1 true t320 za5 t336 bt337.2.2.2)) else (pleachref35_Take_p.j1 k1 true t320 za5 t336 bt337.2.2.2))) = some (r1, r2, r3, r4, r5) := H
    have A36 := Aside0.mk A360
    clear A360
    replace H := Option.bind_eq_some_iff.mp H
    obtain ⟨⟨t337, t338, t339, t340⟩, A370, H⟩ := H
    replace H : (if t339 = 0 then (if t315 = 67 then ((pleachref35_Put.f t320 za5 t336 t340).bind fun t341 => (if t341.toList = a0.toList then (pleachref35_Take_p.j1 k1 (a0.toList == ([] : List UInt8)) t320 za5 t336 t340) else (pleachref35_Take_p.j1 k1 true t320 za5 t336 t340))) else (pleachref35_Take_p.j1 k1 true t320 za5 t336 t340)) else (pleachref35_Take_p.j1 k1 true t320 za5 t336 t340)) = some (r1, r2, r3, r4, r5) := H
    have A37 := Aside0.mk A370
    clear A370
    have HC38 := Aside0.mk H
    clear H
    have zb5 := zaw.out
    have zb6 := zav.out
    have zb7 := zay.out
    have zb8 := zax.out
    obtain ⟨zb9, zca, zcb⟩ := M.bc3 (w := wr) (a := .string za6) (b := .int .i64 za7) (c := .int .i64 za8) zas.out
    obtain ⟨zcc, zcd, zce⟩ := M.bf3 zas
    go_upto_region 13 with (first | ((with_reducible refine gate_callee (f := 38) rfl ?_); refine M.goes (some 47) Tryd.func38 #[.agg #[.string za6, .int .i64 za7, .int .i64 za8], .int .i64 32] rfl ?_; (with_reducible refine (pleachref04_Fix.calls za6 za7 za8 32 t333 t334 t335 t336 _ A36.out).mono ?_); rintro e w42 ⟨rfl, hb⟩; refine ⟨_, rfl, ?_⟩; replace zba := M.roB zba hb; replace zai := M.bkB zai hb; replace zam := M.bkB zam hb; replace zas := M.bkB zas hb; replace HB := M.upS HB hb; (try clear hb); obtain ⟨zcf, zcg, zch⟩ := M.bc3 (w := w42) (a := .string za6) (b := .int .i64 za7) (c := .int .i64 za8) zas.out; obtain ⟨zci, zcj, zck⟩ := M.bf3 zas; have zcl := zaq.out; have zcm := zap.out; have zcn : w42.cell? ⟨zal, 0, none⟩ = some (.int .i64 t320) := (blk_cell zam.out 0).trans rfl; have zco : w42.cell? ⟨zal, 1, none⟩ = some (za9) := (blk_cell zam.out 1).trans rfl; have zcp : w42.cell? ⟨zal, 2, none⟩ = some (.string (⟨#[]⟩ : ByteArray)) := (blk_cell zam.out 2).trans rfl; have zcq : w42.cell? ⟨zal, 3, none⟩ = some (.string (⟨#[]⟩ : ByteArray)) := (blk_cell zam.out 3).trans rfl; have zcr := blk_frozen zam.out 0; have zcs := blk_frozen zam.out 1; have zct := blk_frozen zam.out 2; have zcu := blk_frozen zam.out 3) | ((with_reducible refine gate_callee (f := 39) rfl ?_); refine M.goes (some 53) Tryd.func39 #[.agg #[.string t333, .int .i64 t334, .int .i64 t335], .int .i64 40] rfl ?_; (with_reducible refine (pleachref04_Text.calls t333 t334 t335 40 t337 t338 t339 t340 _ A37.out).mono ?_); rintro e w46 ⟨rfl, hb⟩; refine ⟨_, rfl, ?_⟩; replace zba := Aside0.mk (Kd.R_below (by (with_reducible repeat (first | apply Kd.R_alloc | apply Kd.R_drewN | apply Kd.R_drew)); exact (Kd.R_mono (Kd.R_mono (Kd.R_far (p := ⟨zal, 2, none⟩) (Kd.R_far (p := ⟨zar, 2, none⟩) (Kd.R_far (p := ⟨zar, 1, none⟩) (Kd.R_far (p := ⟨zar, 0, none⟩) (Kd.R_types (Kd.R_types zba.out zas.out (by decide)) zam.out (by decide)) (fun _ hk => hk.1.2) (.string t333)) (fun _ hk => hk.1.2) (.int .i64 t334)) (fun _ hk => hk.1.2) (.int .i64 t335)) (fun _ hk => hk.2) (.string t336)) (fun _ h_ => h_.1)) (fun _ h_ => h_.1))) hb); replace zai := Aside0.mk (blk_below (g := zah) (o := .cells #[.int .i64 0, .slice none 0 0, .string (⟨#[]⟩ : ByteArray), .string (⟨#[]⟩ : ByteArray)] 24 (0, 0)) (by refine M.fr ?_ zap; refine M.fr ?_ zav; refine M.fr ?_ zav; refine M.fr ?_ zav; exact M.bk zai) hb); replace zam := Aside0.mk (blk_below (g := zal) (o := .cells #[.int .i64 t320, za9, .string t336, .string (⟨#[]⟩ : ByteArray)] 24 (0, 0)) (by refine M.fp (cs := #[.int .i64 t320, za9, .string (⟨#[]⟩ : ByteArray), .string (⟨#[]⟩ : ByteArray)]) ?_ 2; refine M.fr ?_ zax; refine M.fr ?_ zax; refine M.fr ?_ zax; exact M.bk zam) hb); replace zas := Aside0.mk (blk_below (g := zar) (o := .cells #[.string t333, .int .i64 t334, .int .i64 t335] 70 (0, 0)) (by refine M.fr ?_ zay; refine M.fp (cs := #[.string t333, .int .i64 t334, .int .i64 za8]) ?_ 2; refine M.fp (cs := #[.string t333, .int .i64 za7, .int .i64 za8]) ?_ 1; refine M.fp (cs := #[.string za6, .int .i64 za7, .int .i64 za8]) ?_ 0; exact M.bk zas) hb); replace HB := M.upS HB hb; (try clear hb); obtain ⟨zcv, zcw, zcx⟩ := M.bc3 (w := w46) (a := .string t333) (b := .int .i64 t334) (c := .int .i64 t335) zas.out; obtain ⟨zcy, zcz, zcA⟩ := M.bf3 zas; have zcB : w46.cell? ⟨zal, 0, none⟩ = some (.int .i64 t320) := (blk_cell zam.out 0).trans rfl; have zcC : w46.cell? ⟨zal, 1, none⟩ = some (za9) := (blk_cell zam.out 1).trans rfl; have zcD : w46.cell? ⟨zal, 2, none⟩ = some (.string t336) := (blk_cell zam.out 2).trans rfl; have zcE : w46.cell? ⟨zal, 3, none⟩ = some (.string (⟨#[]⟩ : ByteArray)) := (blk_cell zam.out 3).trans rfl; have zcF := blk_frozen zam.out 0; have zcG := blk_frozen zam.out 1; have zcH := blk_frozen zam.out 2; have zcI := blk_frozen zam.out 3))
    (try simp only [Act.put, List.setIfInBounds_toArray, List.set_cons_zero, List.set_cons_succ])
    go_cut [73] (fun v73 wc => ∃ (kq : Nat) (x73_37 : Bool), v73 = .bool x73_37 ∧ Aside0 (pleachref35_Take_p.j1 kq x73_37 t320 za5 t336 t340 = some (r1, r2, r3, r4, r5)) ∧ Aside0 (kq ≤ k1) ∧ Aside0 (Kd.R Kd.string 9 wc w.heap.size (fun _ => True) za9 za5) ∧ Aside0 (wc.heap[zah]? = some (.cells #[.int .i64 0, (.slice none 0 0), .string (⟨#[]⟩ : ByteArray), .string (⟨#[]⟩ : ByteArray)] 24 (0, 0))) ∧ Aside0 (wc.heap[zal]? = some (.cells #[.int .i64 t320, za9, .string t336, .string t340] 24 (0, 0))) ∧ Aside0 (wc.heap[zar]? = some (.cells #[.string t337, .int .i64 t338, .int .i64 t339] 70 (0, 0))) ∧ Aside0 (Below w.heap.size w wc))
    case first =>
     have H := HC38.out
     clear HC38
     by_cases c49 : t339 = 0
     ·rw [if_pos c49] at H
      have c49b0 : (t339 == 0) = true := beq_iff_eq.mpr c49
      have c49b1 : (t339 != 0) = false := bne_eq_false_iff_eq.mpr c49
      clear c49
      (first | rw [c49b0] | (simp only [i64_w, i32_w]; rw [c49b0]) | skip)
      by_cases c50 : t315 = 67
      ·rw [if_pos c50] at H
       have c50b0 : (t315 == 67) = true := beq_iff_eq.mpr c50
       have c50b1 : (t315 != 67) = false := bne_eq_false_iff_eq.mpr c50
       clear c50
       replace H := Option.bind_eq_some_iff.mp H
       obtain ⟨t341, A510, H⟩ := H
       replace H : (if t341.toList = a0.toList then (pleachref35_Take_p.j1 k1 (a0.toList == ([] : List UInt8)) t320 za5 t336 t340) else (pleachref35_Take_p.j1 k1 true t320 za5 t336 t340)) = some (r1, r2, r3, r4, r5) := H
       have A51 := Aside0.mk A510
       clear A510
       by_cases c52 : t341.toList = a0.toList
       ·rw [if_pos c52] at H
        have c52b0 : (t341.toList == a0.toList) = true := beq_iff_eq.mpr c52
        have c52b1 : (t341.toList != a0.toList) = false := bne_eq_false_iff_eq.mpr c52
        clear c52
        have H' := Aside0.mk H
        clear H
        have zcJ := zaw.out
        have zcK := zav.out
        have zcL := zay.out
        have zcM := zax.out
        obtain ⟨zcN, zcO, zcP⟩ := M.bc3 (w := w46) (a := .string t333) (b := .int .i64 t334) (c := .int .i64 t335) zas.out
        obtain ⟨zcQ, zcR, zcS⟩ := M.bf3 zas
        have zcT := zaq.out
        have zcU := zap.out
        have zcV : w46.cell? ⟨zal, 0, none⟩ = some (.int .i64 t320) := (blk_cell zam.out 0).trans rfl
        have zcW : w46.cell? ⟨zal, 1, none⟩ = some (za9) := (blk_cell zam.out 1).trans rfl
        have zcX : w46.cell? ⟨zal, 2, none⟩ = some (.string t336) := (blk_cell zam.out 2).trans rfl
        have zcY : w46.cell? ⟨zal, 3, none⟩ = some (.string (⟨#[]⟩ : ByteArray)) := (blk_cell zam.out 3).trans rfl
        have zcZ := blk_frozen zam.out 0
        have zc0 := blk_frozen zam.out 1
        have zc1 := blk_frozen zam.out 2
        have zc2 := blk_frozen zam.out 3
        obtain ⟨Ao58, co58, eo58⟩ := Kd.R_slice zba.out
        subst eo58
        go_wp2_with (first | (go_at_call 17; (with_reducible refine (pleachref35_Put.calls t320 _ _ za5 t336 t340 t341 _ ?side1 ?side2 A51.out).mono ?_); (case side1 => refine (Kd.R_reads' (e := 9) (base := w.heap.size) (ok := fun k_ => True) (n := za5.length) (c := co58) ?_).2.2; exact (by (with_reducible repeat (first | apply Kd.R_alloc | apply Kd.R_drewN | apply Kd.R_drew)); exact (Kd.R_mono (Kd.R_mono (Kd.R_far (p := ⟨zal, 3, none⟩) (Kd.R_far (p := ⟨zar, 2, none⟩) (Kd.R_far (p := ⟨zar, 1, none⟩) (Kd.R_far (p := ⟨zar, 0, none⟩) (Kd.R_types (Kd.R_types zba.out zas.out (by decide)) zam.out (by decide)) (fun _ hk => hk.1.2) (.string t337)) (fun _ hk => hk.1.2) (.int .i64 t338)) (fun _ hk => hk.1.2) (.int .i64 t339)) (fun _ hk => hk.2) (.string t340)) (fun _ h_ => h_.1)) (fun _ h_ => h_.1)))); (case side2 => exact (Kd.R_reads' zba.out).2.1); rintro e w59 ⟨rfl, hb⟩; replace zba := Aside0.mk (Kd.R_below (by (with_reducible repeat (first | apply Kd.R_alloc | apply Kd.R_drewN | apply Kd.R_drew)); exact (Kd.R_mono (Kd.R_mono (Kd.R_far (p := ⟨zal, 3, none⟩) (Kd.R_far (p := ⟨zar, 2, none⟩) (Kd.R_far (p := ⟨zar, 1, none⟩) (Kd.R_far (p := ⟨zar, 0, none⟩) (Kd.R_types (Kd.R_types zba.out zas.out (by decide)) zam.out (by decide)) (fun _ hk => hk.1.2) (.string t337)) (fun _ hk => hk.1.2) (.int .i64 t338)) (fun _ hk => hk.1.2) (.int .i64 t339)) (fun _ hk => hk.2) (.string t340)) (fun _ h_ => h_.1)) (fun _ h_ => h_.1))) hb); replace zai := Aside0.mk (blk_below (g := zah) (o := .cells #[.int .i64 0, .slice none 0 0, .string (⟨#[]⟩ : ByteArray), .string (⟨#[]⟩ : ByteArray)] 24 (0, 0)) (by refine M.fr ?_ zap; refine M.fr ?_ zav; refine M.fr ?_ zav; refine M.fr ?_ zav; exact M.bk zai) hb); replace zam := Aside0.mk (blk_below (g := zal) (o := .cells #[.int .i64 t320, .slice Ao58 za5.length co58, .string t336, .string t340] 24 (0, 0)) (by refine M.fp (cs := #[.int .i64 t320, .slice Ao58 za5.length co58, .string t336, .string (⟨#[]⟩ : ByteArray)]) ?_ 3; refine M.fr ?_ zax; refine M.fr ?_ zax; refine M.fr ?_ zax; exact M.bk zam) hb); replace zas := Aside0.mk (blk_below (g := zar) (o := .cells #[.string t337, .int .i64 t338, .int .i64 t339] 70 (0, 0)) (by refine M.fr ?_ zay; refine M.fp (cs := #[.string t337, .int .i64 t338, .int .i64 t335]) ?_ 2; refine M.fp (cs := #[.string t337, .int .i64 t334, .int .i64 t335]) ?_ 1; refine M.fp (cs := #[.string t333, .int .i64 t334, .int .i64 t335]) ?_ 0; exact M.bk zas) hb); replace HB := M.upS HB hb; (try clear hb); (try clear hb2); (try clear hk); (try clear hi)))
        go_meet
        case rel => exact ⟨_, ((a0.toList == ([] : List UInt8))), M.eqv, H', ⟨by have := HK1.out; first | omega | exact Nat.le_refl _⟩, ⟨by (with_reducible repeat (first | apply Kd.R_alloc | apply Kd.R_drewN | apply Kd.R_drew)); exact zba.out⟩, ⟨M.bk zai⟩, ⟨M.bk zam⟩, ⟨M.bk zas⟩, ⟨M.up HB⟩⟩
       ·rw [if_neg c52] at H
        have c52b0 : (t341.toList == a0.toList) = false := beq_eq_false_iff_ne.mpr c52
        have c52b1 : (t341.toList != a0.toList) = true := bne_iff_ne.mpr c52
        have H' := Aside0.mk H
        clear H
        have zc3 := zaw.out
        have zc4 := zav.out
        have zc5 := zay.out
        have zc6 := zax.out
        obtain ⟨zc7, zc8, zc9⟩ := M.bc3 (w := w46) (a := .string t333) (b := .int .i64 t334) (c := .int .i64 t335) zas.out
        obtain ⟨zda, zdb, zdc⟩ := M.bf3 zas
        have zdd := zaq.out
        have zde := zap.out
        have zdf : w46.cell? ⟨zal, 0, none⟩ = some (.int .i64 t320) := (blk_cell zam.out 0).trans rfl
        have zdg : w46.cell? ⟨zal, 1, none⟩ = some (za9) := (blk_cell zam.out 1).trans rfl
        have zdh : w46.cell? ⟨zal, 2, none⟩ = some (.string t336) := (blk_cell zam.out 2).trans rfl
        have zdi : w46.cell? ⟨zal, 3, none⟩ = some (.string (⟨#[]⟩ : ByteArray)) := (blk_cell zam.out 3).trans rfl
        have zdj := blk_frozen zam.out 0
        have zdk := blk_frozen zam.out 1
        have zdl := blk_frozen zam.out 2
        have zdm := blk_frozen zam.out 3
        obtain ⟨Ao65, co65, eo65⟩ := Kd.R_slice zba.out
        subst eo65
        go_wp2_with (first | (go_at_call 17; (with_reducible refine (pleachref35_Put.calls t320 _ _ za5 t336 t340 t341 _ ?side1 ?side2 A51.out).mono ?_); (case side1 => refine (Kd.R_reads' (e := 9) (base := w.heap.size) (ok := fun k_ => True) (n := za5.length) (c := co65) ?_).2.2; exact (by (with_reducible repeat (first | apply Kd.R_alloc | apply Kd.R_drewN | apply Kd.R_drew)); exact (Kd.R_mono (Kd.R_mono (Kd.R_far (p := ⟨zal, 3, none⟩) (Kd.R_far (p := ⟨zar, 2, none⟩) (Kd.R_far (p := ⟨zar, 1, none⟩) (Kd.R_far (p := ⟨zar, 0, none⟩) (Kd.R_types (Kd.R_types zba.out zas.out (by decide)) zam.out (by decide)) (fun _ hk => hk.1.2) (.string t337)) (fun _ hk => hk.1.2) (.int .i64 t338)) (fun _ hk => hk.1.2) (.int .i64 t339)) (fun _ hk => hk.2) (.string t340)) (fun _ h_ => h_.1)) (fun _ h_ => h_.1)))); (case side2 => exact (Kd.R_reads' zba.out).2.1); rintro e w66 ⟨rfl, hb⟩; replace zba := Aside0.mk (Kd.R_below (by (with_reducible repeat (first | apply Kd.R_alloc | apply Kd.R_drewN | apply Kd.R_drew)); exact (Kd.R_mono (Kd.R_mono (Kd.R_far (p := ⟨zal, 3, none⟩) (Kd.R_far (p := ⟨zar, 2, none⟩) (Kd.R_far (p := ⟨zar, 1, none⟩) (Kd.R_far (p := ⟨zar, 0, none⟩) (Kd.R_types (Kd.R_types zba.out zas.out (by decide)) zam.out (by decide)) (fun _ hk => hk.1.2) (.string t337)) (fun _ hk => hk.1.2) (.int .i64 t338)) (fun _ hk => hk.1.2) (.int .i64 t339)) (fun _ hk => hk.2) (.string t340)) (fun _ h_ => h_.1)) (fun _ h_ => h_.1))) hb); replace zai := Aside0.mk (blk_below (g := zah) (o := .cells #[.int .i64 0, .slice none 0 0, .string (⟨#[]⟩ : ByteArray), .string (⟨#[]⟩ : ByteArray)] 24 (0, 0)) (by refine M.fr ?_ zap; refine M.fr ?_ zav; refine M.fr ?_ zav; refine M.fr ?_ zav; exact M.bk zai) hb); replace zam := Aside0.mk (blk_below (g := zal) (o := .cells #[.int .i64 t320, .slice Ao65 za5.length co65, .string t336, .string t340] 24 (0, 0)) (by refine M.fp (cs := #[.int .i64 t320, .slice Ao65 za5.length co65, .string t336, .string (⟨#[]⟩ : ByteArray)]) ?_ 3; refine M.fr ?_ zax; refine M.fr ?_ zax; refine M.fr ?_ zax; exact M.bk zam) hb); replace zas := Aside0.mk (blk_below (g := zar) (o := .cells #[.string t337, .int .i64 t338, .int .i64 t339] 70 (0, 0)) (by refine M.fr ?_ zay; refine M.fp (cs := #[.string t337, .int .i64 t338, .int .i64 t335]) ?_ 2; refine M.fp (cs := #[.string t337, .int .i64 t334, .int .i64 t335]) ?_ 1; refine M.fp (cs := #[.string t333, .int .i64 t334, .int .i64 t335]) ?_ 0; exact M.bk zas) hb); replace HB := M.upS HB hb; (try clear hb); (try clear hb2); (try clear hk); (try clear hi)))
        go_meet
        case rel => exact ⟨_, (true), M.eqv, H', ⟨by have := HK1.out; first | omega | exact Nat.le_refl _⟩, ⟨by (with_reducible repeat (first | apply Kd.R_alloc | apply Kd.R_drewN | apply Kd.R_drew)); exact zba.out⟩, ⟨M.bk zai⟩, ⟨M.bk zam⟩, ⟨M.bk zas⟩, ⟨M.up HB⟩⟩
      ·rw [if_neg c50] at H
       have c50b0 : (t315 == 67) = false := beq_eq_false_iff_ne.mpr c50
       have c50b1 : (t315 != 67) = true := bne_iff_ne.mpr c50
       have H' := Aside0.mk H
       clear H
       have zdn := zaw.out
       have zdo := zav.out
       have zdp := zay.out
       have zdq := zax.out
       obtain ⟨zdr, zds, zdt⟩ := M.bc3 (w := w46) (a := .string t333) (b := .int .i64 t334) (c := .int .i64 t335) zas.out
       obtain ⟨zdu, zdv, zdw⟩ := M.bf3 zas
       go_wp2
       go_meet
       case rel => exact ⟨_, (true), M.eqv, H', ⟨by have := HK1.out; first | omega | exact Nat.le_refl _⟩, ⟨by (with_reducible repeat (first | apply Kd.R_alloc | apply Kd.R_drewN | apply Kd.R_drew)); exact Kd.R_mono (Kd.R_far (p := ⟨zal, 3, none⟩) (Kd.R_far (p := ⟨zar, 2, none⟩) (Kd.R_far (p := ⟨zar, 1, none⟩) (Kd.R_far (p := ⟨zar, 0, none⟩) (Kd.R_types (Kd.R_types zba.out zas.out (by decide)) zam.out (by decide)) (fun _ hk => hk.1.2) (.string t337)) (fun _ hk => hk.1.2) (.int .i64 t338)) (fun _ hk => hk.1.2) (.int .i64 t339)) (fun _ hk => hk.2) (.string t340)) (fun _ hk => trivial)⟩, ⟨by refine M.fr ?_ zap; refine M.fr ?_ zav; refine M.fr ?_ zav; refine M.fr ?_ zav; exact M.bk zai⟩, ⟨by refine M.fp (cs := #[.int .i64 t320, za9, .string t336, .string (⟨#[]⟩ : ByteArray)]) ?_ 3; refine M.fr ?_ zax; refine M.fr ?_ zax; refine M.fr ?_ zax; exact M.bk zam⟩, ⟨by refine M.fr ?_ zay; refine M.fp (cs := #[.string t337, .int .i64 t338, .int .i64 t335]) ?_ 2; refine M.fp (cs := #[.string t337, .int .i64 t334, .int .i64 t335]) ?_ 1; refine M.fp (cs := #[.string t333, .int .i64 t334, .int .i64 t335]) ?_ 0; exact M.bk zas⟩, ⟨M.up HB⟩⟩
     ·rw [if_neg c49] at H
      have c49b0 : (t339 == 0) = false := beq_eq_false_iff_ne.mpr c49
      have c49b1 : (t339 != 0) = true := bne_iff_ne.mpr c49
      (first | rw [c49b0] | (simp only [i64_w, i32_w]; rw [c49b0]) | skip)
      have H' := Aside0.mk H
      clear H
      have zdx := zaw.out
      have zdy := zav.out
      have zdz := zay.out
      have zdA := zax.out
      obtain ⟨zdB, zdC, zdD⟩ := M.bc3 (w := w46) (a := .string t333) (b := .int .i64 t334) (c := .int .i64 t335) zas.out
      obtain ⟨zdE, zdF, zdG⟩ := M.bf3 zas
      go_wp2
      go_meet
      case rel => exact ⟨_, (true), M.eqv, H', ⟨by have := HK1.out; first | omega | exact Nat.le_refl _⟩, ⟨by (with_reducible repeat (first | apply Kd.R_alloc | apply Kd.R_drewN | apply Kd.R_drew)); exact Kd.R_mono (Kd.R_far (p := ⟨zal, 3, none⟩) (Kd.R_far (p := ⟨zar, 2, none⟩) (Kd.R_far (p := ⟨zar, 1, none⟩) (Kd.R_far (p := ⟨zar, 0, none⟩) (Kd.R_types (Kd.R_types zba.out zas.out (by decide)) zam.out (by decide)) (fun _ hk => hk.1.2) (.string t337)) (fun _ hk => hk.1.2) (.int .i64 t338)) (fun _ hk => hk.1.2) (.int .i64 t339)) (fun _ hk => hk.2) (.string t340)) (fun _ hk => trivial)⟩, ⟨by refine M.fr ?_ zap; refine M.fr ?_ zav; refine M.fr ?_ zav; refine M.fr ?_ zav; exact M.bk zai⟩, ⟨by refine M.fp (cs := #[.int .i64 t320, za9, .string t336, .string (⟨#[]⟩ : ByteArray)]) ?_ 3; refine M.fr ?_ zax; refine M.fr ?_ zax; refine M.fr ?_ zax; exact M.bk zam⟩, ⟨by refine M.fr ?_ zay; refine M.fp (cs := #[.string t337, .int .i64 t338, .int .i64 t335]) ?_ 2; refine M.fp (cs := #[.string t337, .int .i64 t334, .int .i64 t335]) ?_ 1; refine M.fp (cs := #[.string t333, .int .i64 t334, .int .i64 t335]) ?_ 0; exact M.bk zas⟩, ⟨M.up HB⟩⟩
    case rest =>
     clear HC38
     (try clear c1); (try clear c2); (try clear p2); (try clear c3); (try clear c4); (try clear c5); (try clear c6); (try clear p6); (try clear c7); (try clear c9); (try clear c10); (try clear c14); (try clear c18); (try clear c18b0); (try clear c20); (try clear c21); (try clear c22); (try clear c26); (try clear c27); (try clear c28); (try clear c31); (try clear c36); (try clear c37); (try clear c38); (try clear c39); (try clear c40); (try clear c44); (try clear c49); (try clear c49b0); (try clear c49b1); (try clear c50); (try clear c50b0); (try clear c50b1); (try clear c52); (try clear c52b0); (try clear c52b1); (try clear c53); (try clear c54); (try clear c56); (try clear c60); (try clear c61); (try clear c63); (try clear p64); (try clear c67); (try clear c68); (try clear c70); (try clear c71); (try clear zaD); (try clear zaE); (try clear zaF); (try clear zaJ); (try clear zaK); (try clear zaL); (try clear zaR); (try clear zaS); (try clear zaT); (try clear zaU); (try clear zaZ); (try clear za0); (try clear za1); (try clear zbf); (try clear zbg); (try clear zbh); (try clear zbB); (try clear zbC); (try clear zbD); (try clear zbH); (try clear zbI); (try clear zbJ); (try clear zbP); (try clear zbQ); (try clear zbR); (try clear zbS); (try clear zbX); (try clear zbY); (try clear zbZ); (try clear zb0); (try clear zb9); (try clear zca); (try clear zcb); (try clear zcf); (try clear zcg); (try clear zch); (try clear zcn); (try clear zco); (try clear zcp); (try clear zcq); (try clear zcv); (try clear zcw); (try clear zcx); (try clear zcB); (try clear zcC); (try clear zcD); (try clear zcE); (try clear zcN); (try clear zcO); (try clear zcP); (try clear zcV); (try clear zcW); (try clear zcX); (try clear zcY); (try clear zc7); (try clear zc8); (try clear zc9); (try clear zdf); (try clear zdg); (try clear zdh); (try clear zdi); (try clear zdr); (try clear zds); (try clear zdt); (try clear zdB); (try clear zdC); (try clear zdD); (try clear zaG); (try clear zaH); (try clear zaI); (try clear zaM); (try clear zaN); (try clear zaO); (try clear zaV); (try clear zaW); (try clear zaX); (try clear zaY); (try clear za2); (try clear za3); (try clear za4); (try clear zbi); (try clear zbj); (try clear zbk); (try clear zbE); (try clear zbF); (try clear zbG); (try clear zbK); (try clear zbL); (try clear zbM); (try clear zbT); (try clear zbU); (try clear zbV); (try clear zbW); (try clear zb1); (try clear zb2); (try clear zb3); (try clear zb4); (try clear zcc); (try clear zcd); (try clear zce); (try clear zci); (try clear zcj); (try clear zck); (try clear zcr); (try clear zcs); (try clear zct); (try clear zcu); (try clear zcy); (try clear zcz); (try clear zcA); (try clear zcF); (try clear zcG); (try clear zcH); (try clear zcI); (try clear zcQ); (try clear zcR); (try clear zcS); (try clear zcZ); (try clear zc0); (try clear zc1); (try clear zc2); (try clear zda); (try clear zdb); (try clear zdc); (try clear zdj); (try clear zdk); (try clear zdl); (try clear zdm); (try clear zdu); (try clear zdv); (try clear zdw); (try clear zdE); (try clear zdF); (try clear zdG); (try clear p2)
     obtain ⟨kq, x73_37, rfl, HA, HJ37, zba, zai, zam, zas, HB⟩ := hcut
     cases kq with
     | zero => exact absurd HA.out (by simp [pleachref35_Take_p.j1])
     | succ kj37 =>
      have H := HA.out
      clear HA
      simp only [pleachref35_Take_p.j1] at H
      by_cases c73 : x73_37 = true
      ·subst c73
       have H1 : (some (0, ([] : List ByteArray), (⟨#[]⟩ : ByteArray), (⟨#[]⟩ : ByteArray), false)) = some (r1, r2, r3, r4, r5) := by rw [if_pos rfl] at H; exact H
       clear H
       have H := H1
       clear H1
       simp only [Option.some.injEq, Prod.mk.injEq] at H
       obtain ⟨rfl, rfl, rfl, rfl, rfl⟩ := H
       have zdH := zap.out
       have zdI := zaq.out
       have zdJ := zav.out
       have zdK := zaw.out
       have zdL : wc.cell? ⟨zah, 0, none⟩ = some (.int .i64 0) := (blk_cell zai.out 0).trans rfl
       have zdM : wc.cell? ⟨zah, 1, none⟩ = some (.slice none 0 0) := (blk_cell zai.out 1).trans rfl
       have zdN : wc.cell? ⟨zah, 2, none⟩ = some (.string (⟨#[]⟩ : ByteArray)) := (blk_cell zai.out 2).trans rfl
       have zdO : wc.cell? ⟨zah, 3, none⟩ = some (.string (⟨#[]⟩ : ByteArray)) := (blk_cell zai.out 3).trans rfl
       have zdP := blk_frozen zai.out 0
       have zdQ := blk_frozen zai.out 1
       have zdR := blk_frozen zai.out 2
       have zdS := blk_frozen zai.out 3
       go_wp2
       refine bodyPost_ret (results_ct rfl _ _ zah 24 #[.int .i64 0, .slice none 0 0, .string (⟨#[]⟩ : ByteArray), .string (⟨#[]⟩ : ByteArray)] (0, 0) _ rfl (by refine M.fp (cs := #[.int .i64 0, .slice none 0 0, .string (⟨#[]⟩ : ByteArray), .string (⟨#[]⟩ : ByteArray)]) ?_ 3; refine M.fp (cs := #[.int .i64 0, .slice none 0 0, .string (⟨#[]⟩ : ByteArray), .string (⟨#[]⟩ : ByteArray)]) ?_ 2; refine M.fp (cs := #[.int .i64 0, .slice none 0 0, .string (⟨#[]⟩ : ByteArray), .string (⟨#[]⟩ : ByteArray)]) ?_ 1; refine M.fp (cs := #[.int .i64 0, .slice none 0 0, .string (⟨#[]⟩ : ByteArray), .string (⟨#[]⟩ : ByteArray)]) ?_ 0; exact M.bk zai) Tryd.underlying24 rfl (by kernel_rfl)) rfl ?_
       exact ⟨_, M.eqe, M.nl, M.up HB⟩
      ·replace c73 := Bool.eq_false_iff.mpr c73
       subst c73
       have H1 : (some (t320, za5, t336, t340, true)) = some (r1, r2, r3, r4, r5) := by rw [if_neg (show ¬ (false = true) by decide)] at H; exact H
       clear H
       have H := H1
       clear H1
       simp only [Option.some.injEq, Prod.mk.injEq] at H
       obtain ⟨rfl, rfl, rfl, rfl, rfl⟩ := H
       have zdT := zaq.out
       have zdU := zap.out
       have zdV := zax.out
       have zdW := zay.out
       have zdX : wc.cell? ⟨zal, 0, none⟩ = some (.int .i64 t320) := (blk_cell zam.out 0).trans rfl
       have zdY : wc.cell? ⟨zal, 1, none⟩ = some (za9) := (blk_cell zam.out 1).trans rfl
       have zdZ : wc.cell? ⟨zal, 2, none⟩ = some (.string t336) := (blk_cell zam.out 2).trans rfl
       have zd0 : wc.cell? ⟨zal, 3, none⟩ = some (.string t340) := (blk_cell zam.out 3).trans rfl
       have zd1 := blk_frozen zam.out 0
       have zd2 := blk_frozen zam.out 1
       have zd3 := blk_frozen zam.out 2
       have zd4 := blk_frozen zam.out 3
       have zd5 := zav.out
       have zd6 := zaw.out
       have zd7 : wc.cell? ⟨zah, 0, none⟩ = some (.int .i64 0) := (blk_cell zai.out 0).trans rfl
       have zd8 : wc.cell? ⟨zah, 1, none⟩ = some (.slice none 0 0) := (blk_cell zai.out 1).trans rfl
       have zd9 : wc.cell? ⟨zah, 2, none⟩ = some (.string (⟨#[]⟩ : ByteArray)) := (blk_cell zai.out 2).trans rfl
       have zea : wc.cell? ⟨zah, 3, none⟩ = some (.string (⟨#[]⟩ : ByteArray)) := (blk_cell zai.out 3).trans rfl
       have zeb := blk_frozen zai.out 0
       have zec := blk_frozen zai.out 1
       have zed := blk_frozen zai.out 2
       have zee := blk_frozen zai.out 3
       obtain ⟨Ao82, co82, eo82⟩ := Kd.R_slice zba.out
       subst eo82
       go_wp2
       refine bodyPost_ret (results_ct rfl _ _ zah 24 #[.int .i64 t320, .slice Ao82 za5.length co82, .string t336, .string t340] (0, 0) _ rfl (by refine M.fp (cs := #[.int .i64 t320, .slice Ao82 za5.length co82, .string t336, .string (⟨#[]⟩ : ByteArray)]) ?_ 3; refine M.fp (cs := #[.int .i64 t320, .slice Ao82 za5.length co82, .string (⟨#[]⟩ : ByteArray), .string (⟨#[]⟩ : ByteArray)]) ?_ 2; refine M.fp (cs := #[.int .i64 t320, .slice none 0 0, .string (⟨#[]⟩ : ByteArray), .string (⟨#[]⟩ : ByteArray)]) ?_ 1; refine M.fp (cs := #[.int .i64 0, .slice none 0 0, .string (⟨#[]⟩ : ByteArray), .string (⟨#[]⟩ : ByteArray)]) ?_ 0; exact M.bk zai) Tryd.underlying24 rfl (by kernel_rfl)) rfl ?_
       exact ⟨_, M.eqe, by (with_reducible repeat (first | apply Kd.R_alloc | apply Kd.R_drewN | apply Kd.R_drew)); exact Kd.R_mono (Kd.R_far (p := ⟨zah, 3, none⟩) (Kd.R_far (p := ⟨zah, 2, none⟩) (Kd.R_far (p := ⟨zah, 1, none⟩) (Kd.R_far (p := ⟨zah, 0, none⟩) (Kd.R_types zba.out zai.out (by decide)) (fun _ hk => hk.2) (.int .i64 t320)) (fun _ hk => hk.2) (.slice Ao82 za5.length co82)) (fun _ hk => hk.2) (.string t336)) (fun _ hk => hk.2) (.string t340)) (fun _ hk => trivial), M.up HB⟩
def pleachref35_Take.no : Int × List ByteArray × ByteArray × ByteArray × Bool := (0, [], ⟨#[]⟩, ⟨#[]⟩, false)
def pleachref35_Take.f (a0 : ByteArray) : Option (Int × List ByteArray × ByteArray × ByteArray × Bool) := if a0.size ≤ 9223372036854775806 then some (if M.cgood a0 then ((M.cN a0).1, (M.cP a0).1, (M.cG a0).1, (M.cT a0).1, true) else pleachref35_Take.no) else none
def pleachref35_Take.fin (s : ByteArray) (b n : Int) (ps : List ByteArray) (p er : Int) : Int × List ByteArray × ByteArray × ByteArray × Bool :=
  if (M.xtext s (M.xfix s p er 32).2.1 (M.xfix s p er 32).2.2 40).2.2 = 0 ∧ b = 67 ∧ M.isC n ps (M.xfix s p er 32).1 (M.xtext s (M.xfix s p er 32).2.1 (M.xfix s p er 32).2.2 40).1 ∧ M.cput n ps (M.xfix s p er 32).1 (M.xtext s (M.xfix s p er 32).2.1 (M.xfix s p er 32).2.2 40).1 = M.bs s then (n, ps, (M.xfix s p er 32).1, (M.xtext s (M.xfix s p er 32).2.1 (M.xfix s p er 32).2.2 40).1, true) else pleachref35_Take.no
theorem pleachref35_Take.loop (s : ByteArray) (hz : s.size ≤ 9223372036854775806) (b n m : Int) (hm : m ≤ 2) (d : Nat) : ∀ (i : Nat) (p er : Int) (ps : List ByteArray), (i : Int) + d = m → M.sok s p → ps.length ≤ 100 + i →
    pleachref35_Take_p.l0 (d + 2) s b m (i : Int) n ps ⟨#[]⟩ ⟨#[]⟩ s p er = some (pleachref35_Take.fin s b n (ps ++ (M.cfixes s d p er).1) (M.cfixes s d p er).2.1 (M.cfixes s d p er).2.2) := by
 induction d with
 | zero =>
  intro i p er ps hi hs hl
  have hk := M.xfix_ok s er 32 hs
  rw [show 0 + 2 = 1 + 1 from rfl, pleachref35_Take_p.l0, if_neg (by omega)]
  unfold pleachref04_Fix.f pleachref04_fix.f
  rw [if_pos ⟨hs, by decide, by decide⟩, Option.bind_some]
  simp only
  unfold pleachref04_Text.f
  rw [if_pos ⟨hk, by decide, hz⟩, Option.bind_some]
  simp only [M.cfixes, List.append_nil]
  unfold pleachref35_Take.fin
  generalize M.xfix s p er 32 = G at hk ⊢
  generalize M.xtext s G.2.1 G.2.2 40 = T
  have hj : ∀ (c : Bool), pleachref35_Take_p.j1 1 c n ps G.1 T.1 = if c = true then some pleachref35_Take.no else some (n, ps, G.1, T.1, true) := fun c => by rw [show 1 = 0 + 1 from rfl, pleachref35_Take_p.j1]; rfl
  rw [hj, hj]
  by_cases c1 : T.2.2 = 0
  ·rw [if_pos c1]
   by_cases c2 : b = 67
   ·rw [if_pos c2]
    unfold pleachref35_Put.f
    rw [Option.bind_some]
    by_cases c3 : M.isC n ps G.1 T.1
    ·rw [if_pos c3]
     by_cases c4 : M.cput n ps G.1 T.1 = M.bs s
     ·have hne : (s.toList == ([] : List UInt8)) = false := by
       rw [beq_eq_false_iff_ne, M.toList_bs, ← c4]
       unfold M.cput
       simp
      rw [if_pos (by rw [M.toList_bs, M.toList_bs, M.bs_sb]; exact c4), if_neg (by simp [hne]), if_pos ⟨c1, c2, c3, c4⟩]
     ·rw [if_neg (by rw [M.toList_bs, M.toList_bs, M.bs_sb]; exact c4), if_pos rfl, if_neg (fun z => c4 z.2.2.2)]
    ·rw [if_neg c3]
     by_cases c5 : (⟨#[]⟩ : ByteArray).toList = s.toList
     ·rw [if_pos c5, if_pos (by rw [← c5]; decide +kernel), if_neg (fun z => c3 z.2.2.1)]
     ·rw [if_neg c5, if_pos rfl, if_neg (fun z => c3 z.2.2.1)]
   ·rw [if_neg c2, if_pos rfl, if_neg (fun z => c2 z.2.1)]
  ·rw [if_neg c1, if_pos rfl, if_neg (fun z => c1 z.1)]
 | succ d ih =>
  intro i p er ps hi hs hl
  have hk := M.xfix_ok s er 32 hs
  have hi1 : wrap64 ((i : Int) + 1) = ((i + 1 : Nat) : Int) := by rw [M.wrap64_id (by omega) (by omega)]; omega
  rw [show d + 1 + 2 = (d + 2) + 1 from by omega, pleachref35_Take_p.l0, if_pos (by omega), hi1]
  unfold pleachref04_Fix.f pleachref04_fix.f
  rw [if_pos ⟨hs, by decide, by decide⟩, Option.bind_some]
  simp only
  rw [if_pos (by omega), ih (i + 1) _ _ _ (by omega) hk (by simp; omega)]
  simp only [M.cfixes, List.append_assoc, List.singleton_append]
theorem pleachref35_Take.ev (s : ByteArray) (r : Int × List ByteArray × ByteArray × ByteArray × Bool) (h : pleachref35_Take.f s = some r) : ∃ k, pleachref35_Take_p.f k s = some r := by
 unfold pleachref35_Take.f at h
 split at h
 case isFalse => cases h
 case isTrue hz =>
  have h0 : M.sok s 0 := M.sok0 (by omega)
  have hb := M.xbyte_ok s 0 h0
  have hN := M.cN_ok (s := s) (by omega)
  have hM := M.cM_range (s := s) (by omega)
  have hMo := M.cM_ok (s := s) (by omega)
  refine ⟨(M.cM s).1.toNat + 2, ?_⟩
  rw [← h]
  unfold pleachref35_Take_p.f pleachref04_Byte.f
  rw [if_pos h0, Option.bind_some]
  simp only
  unfold pleachref04_Num.f
  rw [if_pos ⟨hb, by decide, hz⟩, Option.bind_some]
  simp only
  rw [show M.xnum s (M.xbyte s 0 0).2.1 (M.xbyte s 0 0).2.2 4294967295 = M.cN s from rfl, if_pos ⟨hN, by decide, hz⟩, Option.bind_some]
  simp only
  rw [show M.xnum s (M.cN s).2.1 (M.cN s).2.2 2 = M.cM s from rfl]
  have := pleachref35_Take.loop s hz (M.xbyte s 0 0).1 (M.cN s).1 (M.cM s).1 hM.2 (M.cM s).1.toNat 0 (M.cM s).2.1 (M.cM s).2.2 [] (by omega) hMo (by simp)
  rw [List.nil_append, show ((0 : Nat) : Int) = 0 from rfl] at this
  rw [this]
  congr 1
  show pleachref35_Take.fin s (M.xbyte s 0 0).1 (M.cN s).1 (M.cP s).1 (M.cP s).2.1 (M.cP s).2.2 = _
  unfold pleachref35_Take.fin
  by_cases c2 : M.cgood s
  ·rw [if_pos c2]
   exact if_pos ((M.cgood_iff (by omega)).1 c2)
  ·rw [if_neg c2]
   exact if_neg (fun z => c2 ((M.cgood_iff (by omega)).2 z))
theorem pleachref35_Take.calls (a0 : ByteArray) (r1 : Int) (r2 : List ByteArray) (r3 : ByteArray) (r4 : ByteArray) (r5 : Bool) (w : World) (h : pleachref35_Take.f a0 = some (r1, r2, r3, r4, r5)) :
    Calls Tryd.prog 10 #[.string a0] w fun e w' => ∃ v1_ : Value, e = .returned (.tuple #[.agg #[.int .i64 r1, v1_, .string r3, .string r4], .bool r5]) ∧ Kd.R Kd.string 9 w' w.heap.size (fun _ => True) v1_ r2 ∧ Below w.heap.size w w' := by
 obtain ⟨k, hk⟩ := pleachref35_Take.ev _ _ h
 exact pleachref35_Take_p.calls (k := k) (w := w) (h := hk)
def pleachref16_Get_p.l0 : Nat → ByteArray → Int → List ByteArray → List ByteArray → ByteArray → ByteArray → Option (ByteArray × Bool)
  | 0, _, _, _, _, _, _ => none
  | k + 1, x1, x6, zef, zeg, zeh, zei => if x6 < (zef.length : Int) then (if 0 ≤ x6 then (if x6 < (zeg.length : Int) then (if (rdOf ByteArray.empty zeg x6).toList = x1.toList then (some (rdOf ByteArray.empty zef x6, true)) else (pleachref16_Get_p.l0 k x1 (wrap64 (x6 + 1)) zef zeg zeh zei)) else (none)) else (none)) else (some ((⟨#[]⟩ : ByteArray), false))
def pleachref16_Get_p.f (k : Nat) (l0_0 : List ByteArray) (l0_1 : List ByteArray) (a0_2 : ByteArray) (a0_3 : ByteArray) (a1 : ByteArray) : Option (ByteArray × Bool) := pleachref16_Get_p.l0 k a1 0 l0_0 l0_1 a0_2 a0_3
theorem pleachref16_Get_p.mono_l : ∀ k, (∀ y0 y1 y2 y3 y4 y5, LeO (pleachref16_Get_p.l0 k y0 y1 y2 y3 y4 y5) (pleachref16_Get_p.l0 (k + 1) y0 y1 y2 y3 y4 y5))
  | 0 => fun _ _ _ _ _ _ r h => by simp [pleachref16_Get_p.l0] at h
  | k + 1 => by
    have ih0 := pleachref16_Get_p.mono_l k
    · intro y0 y1 y2 y3 y4 y5
      unfold pleachref16_Get_p.l0
      repeat' first
      | (with_reducible exact ih0 _ _ _ _ _ _)
      | (with_reducible exact LeO.refl _)
      | (with_reducible exact LeO.none _)
      | (with_reducible refine LeO.ite ?_ ?_)
      | (with_reducible refine LeO.bind ?_ (fun _ => ?_))
      | exact ih0 _ _ _ _ _ _
      | exact LeO.none _
      | refine LeO.ite ?_ ?_
      | refine LeO.bind ?_ (fun _ => ?_)
theorem pleachref16_Get_p.mono : ∀ a0 a1 a2 a3 a4 k, LeO (pleachref16_Get_p.f k a0 a1 a2 a3 a4) (pleachref16_Get_p.f (k + 1) a0 a1 a2 a3 a4) := by
  intro a0 a1 a2 a3 a4 k
  have ih0 := pleachref16_Get_p.mono_l k
  unfold pleachref16_Get_p.f
  repeat' first
      | (with_reducible exact ih0 _ _ _ _ _ _)
      | (with_reducible exact LeO.refl _)
      | (with_reducible exact LeO.none _)
      | (with_reducible refine LeO.ite ?_ ?_)
      | (with_reducible refine LeO.bind ?_ (fun _ => ?_))
      | exact ih0 _ _ _ _ _ _
      | exact LeO.none _
      | refine LeO.ite ?_ ?_
      | refine LeO.bind ?_ (fun _ => ?_)
set_option maxHeartbeats 8000000 in
set_option maxRecDepth 100000 in
theorem pleachref16_Get_p.calls (k : Nat) (A0_0 : Option Addr) (c0_0 : Nat) (l0_0 : List ByteArray) (A0_1 : Option Addr) (c0_1 : Nat) (l0_1 : List ByteArray) (a0_2 : ByteArray) (a0_3 : ByteArray) (a1 : ByteArray) (r1 : ByteArray) (r2 : Bool) (w : World) (hr0_0 : Kd.C Kd.string w A0_0 l0_0.length l0_0) (hc0_0 : l0_0.length ≤ c0_0) (hr0_1 : Kd.C Kd.string w A0_1 l0_1.length l0_1) (hc0_1 : l0_1.length ≤ c0_1) (h : pleachref16_Get_p.f k l0_0 l0_1 a0_2 a0_3 a1 = some (r1, r2)) :
    Calls Tryd.prog 65 #[.agg #[.slice A0_0 l0_0.length c0_0, .slice A0_1 l0_1.length c0_1, .string a0_2, .string a0_3], .string a1] w fun e w' => e = .returned (.tuple #[.string r1, .bool r2]) ∧ Below w.heap.size w w' := by
 have hu46 := Tryd.underlying46
 have HR0_0 := Aside0.mk hr0_0
 have HC0_0 := Aside0.mk hc0_0
 clear hr0_0 hc0_0
 have HR0_1 := Aside0.mk hr0_1
 have HC0_1 := Aside0.mk hc0_1
 clear hr0_1 hc0_1
 have HB := Aside0.mk (Below.refl w.heap.size w)
 have H : (pleachref16_Get_p.l0 k a1 0 l0_0 l0_1 a0_2 a0_3) = some (r1, r2) := h
 clear h
 have H' := Aside0.mk H
 clear H
 go_enter Tryd.func65, Tryd.ntmps65
 go_wp2_with (first | ((with_reducible refine gate_dst (N := 2) rfl ?_); refine M.bx 2 46 (#[.slice A0_0 l0_0.length c0_0, .slice A0_1 l0_1.length c0_1, .string a0_2, .string a0_3]) ?_; intro zej hg w3 hbox hb; have zek := Aside0.mk (hbox); have zel := M.upG HB hg; have zem := M.upG HB hg; replace HB := M.upS HB hb; clear hb hbox hg))
 go_loopg [6] k (fun kq v6 w' => ∃ (x6_1 : Int), v6 = .int .i64 x6_1 ∧ Aside0 (pleachref16_Get_p.l0 kq a1 x6_1 l0_0 l0_1 a0_2 a0_3 = some (r1, r2)) ∧ Aside0 (kq ≤ k) ∧ Aside0 (w'.heap[zej]? = some (.cells #[(.slice A0_0 l0_0.length c0_0), (.slice A0_1 l0_1.length c0_1), .string a0_2, .string a0_3] 46 (0, 0))) ∧ Aside0 (Below w.heap.size w w'))
 case atStart => exact ⟨(0), M.eqv, H', ⟨Nat.le_refl _⟩, ⟨M.bk zek⟩, ⟨M.up HB⟩⟩
 case round =>
  clear H'
  try clear p2
  obtain ⟨x6_1, rfl, HA, HK1, zek, HB⟩ := hrel
  cases gk with
  | zero => exact absurd HA.out (by simp [pleachref16_Get_p.l0])
  | succ k1 =>
   have H := HA.out
   clear HA
   simp only [pleachref16_Get_p.l0] at H
   by_cases c4 : x6_1 < (l0_0.length : Int)
   ·rw [if_pos c4] at H
    have c4b0 := decide_eq_true c4
    clear c4
    by_cases c5 : 0 ≤ x6_1
    ·rw [if_pos c5] at H
     have c5b0 := decide_eq_true c5
     clear c5
     by_cases c6 : x6_1 < (l0_1.length : Int)
     ·rw [if_pos c6] at H
      have c6b0 := decide_eq_true c6
      clear c6
      by_cases c7 : (rdOf ByteArray.empty l0_1 x6_1).toList = a1.toList
      ·rw [if_pos c7] at H
       have c7b0 : ((rdOf ByteArray.empty l0_1 x6_1).toList == a1.toList) = true := beq_iff_eq.mpr c7
       have c7b1 : ((rdOf ByteArray.empty l0_1 x6_1).toList != a1.toList) = false := bne_eq_false_iff_eq.mpr c7
       clear c7
       simp only [Option.some.injEq, Prod.mk.injEq] at H
       obtain ⟨rfl, rfl⟩ := H
       have zen : wr.cell? ⟨zej, 0, none⟩ = some (.slice A0_0 l0_0.length c0_0) := (blk_cell zek.out 0).trans rfl
       have zeo : wr.cell? ⟨zej, 1, none⟩ = some (.slice A0_1 l0_1.length c0_1) := (blk_cell zek.out 1).trans rfl
       have zep : wr.cell? ⟨zej, 2, none⟩ = some (.string a0_2) := (blk_cell zek.out 2).trans rfl
       have zeq : wr.cell? ⟨zej, 3, none⟩ = some (.string a0_3) := (blk_cell zek.out 3).trans rfl
       have zer := blk_frozen zek.out 0
       have zes := blk_frozen zek.out 1
       have zet := blk_frozen zek.out 2
       have zeu := blk_frozen zek.out 3
       have p343 : 0 ≤ (x6_1 : Int) := M.dt
       have q343 : x6_1 < (l0_1.length : Int) := M.dt
       obtain ⟨ad343, e343, hx343_0⟩ := Kd.at_string HR0_1.out x6_1 p343 q343
       cases e343
       replace hx343_0 := M.hc HB hx343_0
       replace p343 := eq_true p343
       replace q343 := eq_true q343
       have p344 : 0 ≤ (x6_1 : Int) := M.dt
       have q344 : x6_1 < (l0_0.length : Int) := M.dt
       obtain ⟨ad344, e344, hx344_0⟩ := Kd.at_string HR0_0.out x6_1 p344 q344
       cases e344
       replace hx344_0 := M.hc HB hx344_0
       replace p344 := eq_true p344
       replace q344 := eq_true q344
       go_wp2
       go_ret2
       exact M.fin (M.up HB)
      ·rw [if_neg c7] at H
       have c7b0 : ((rdOf ByteArray.empty l0_1 x6_1).toList == a1.toList) = false := beq_eq_false_iff_ne.mpr c7
       have c7b1 : ((rdOf ByteArray.empty l0_1 x6_1).toList != a1.toList) = true := bne_iff_ne.mpr c7
       have H' := Aside0.mk H
       clear H
       have zev : wr.cell? ⟨zej, 0, none⟩ = some (.slice A0_0 l0_0.length c0_0) := (blk_cell zek.out 0).trans rfl
       have zew : wr.cell? ⟨zej, 1, none⟩ = some (.slice A0_1 l0_1.length c0_1) := (blk_cell zek.out 1).trans rfl
       have zex : wr.cell? ⟨zej, 2, none⟩ = some (.string a0_2) := (blk_cell zek.out 2).trans rfl
       have zey : wr.cell? ⟨zej, 3, none⟩ = some (.string a0_3) := (blk_cell zek.out 3).trans rfl
       have zez := blk_frozen zek.out 0
       have zeA := blk_frozen zek.out 1
       have zeB := blk_frozen zek.out 2
       have zeC := blk_frozen zek.out 3
       have p343 : 0 ≤ (x6_1 : Int) := M.dt
       have q343 : x6_1 < (l0_1.length : Int) := M.dt
       obtain ⟨ad343, e343, hx343_0⟩ := Kd.at_string HR0_1.out x6_1 p343 q343
       cases e343
       replace hx343_0 := M.hc HB hx343_0
       replace p343 := eq_true p343
       replace q343 := eq_true q343
       go_wp2
       go_roundg k1
       case measure => have := HK1.out; omega
       case rel => exact ⟨(wrap64 (x6_1 + 1)), M.eqv, H', ⟨by have := HK1.out; omega⟩, ⟨M.bk zek⟩, ⟨M.up HB⟩⟩
     ·exact M.nf c6 H
    ·exact M.nf c5 H
   ·rw [if_neg c4] at H
    have c4b0 := decide_eq_false c4
    clear c4
    simp only [Option.some.injEq, Prod.mk.injEq] at H
    obtain ⟨rfl, rfl⟩ := H
    have zeD : wr.cell? ⟨zej, 0, none⟩ = some (.slice A0_0 l0_0.length c0_0) := (blk_cell zek.out 0).trans rfl
    have zeE : wr.cell? ⟨zej, 1, none⟩ = some (.slice A0_1 l0_1.length c0_1) := (blk_cell zek.out 1).trans rfl
    have zeF : wr.cell? ⟨zej, 2, none⟩ = some (.string a0_2) := (blk_cell zek.out 2).trans rfl
    have zeG : wr.cell? ⟨zej, 3, none⟩ = some (.string a0_3) := (blk_cell zek.out 3).trans rfl
    have zeH := blk_frozen zek.out 0
    have zeI := blk_frozen zek.out 1
    have zeJ := blk_frozen zek.out 2
    have zeK := blk_frozen zek.out 3
    go_wp2
    go_ret2
    exact M.fin (M.up HB)
def pleachref16_Get.f (l0 l1 : List ByteArray) (a b name : ByteArray) : Option (ByteArray × Bool) := if l1 = l0.map M.shaSum ∧ l0.length ≤ 1000000000000 then some ((⟨l0, a, b⟩ : M.SS).get name) else none
theorem pleachref16_Get.loop (ts : List ByteArray) (a b name : ByteArray) (hl : ts.length ≤ 1000000000000) (d : Nat) : ∀ i : Nat, i + d = ts.length → (∀ j, j < i → (ts.map M.shaSum).getD j ByteArray.empty ≠ name) →
    pleachref16_Get_p.l0 (d + 1) name (i : Int) ts (ts.map M.shaSum) a b = some ((⟨ts, a, b⟩ : M.SS).get name) := by
 induction d with
 | zero =>
  intro i hi hb
  have hn : M.idx (ts.map M.shaSum) name.data.toList = none := by
   cases hq : M.idx (ts.map M.shaSum) name.data.toList with
   | none => rfl
   | some j =>
    have h1 := M.idx_lt hq
    rw [List.length_map] at h1
    exact absurd (M.data_inj h1.2) (hb j (by omega))
  rw [pleachref16_Get_p.l0, if_neg (by omega)]
  unfold M.SS.get
  simp only [hn]
  rfl
 | succ d ih =>
  intro i hi hb
  have hlt : i < ts.length := by omega
  have hlm : i < (ts.map M.shaSum).length := by rw [List.length_map]; exact hlt
  have hrd : rdOf ByteArray.empty ts (i : Int) = ts.getD i ByteArray.empty := by simp [rdOf]
  have hrd' : rdOf ByteArray.empty (ts.map M.shaSum) (i : Int) = (ts.map M.shaSum).getD i ByteArray.empty := by simp [rdOf]
  rw [pleachref16_Get_p.l0, if_pos (by omega), if_pos (by omega), if_pos (by rw [List.length_map]; omega), hrd, hrd', M.toList_bs, M.toList_bs]
  by_cases h : (ts.map M.shaSum).getD i ByteArray.empty = name
  ·have hs : M.idx (ts.map M.shaSum) name.data.toList = some i := by
    unfold M.idx
    rw [List.findIdx?_eq_some_iff_getElem]
    refine ⟨hlm, ?_, ?_⟩
    ·rw [← h]; simp [List.getD, hlt]
    ·intro j hj
     have := hb j hj
     simp only [decide_eq_true_eq]
     intro e
     refine this ?_
     have e2 := M.data_inj e
     rw [← e2, List.getD_eq_getElem?_getD, List.getElem?_eq_getElem (by omega), Option.getD_some]
   rw [if_pos (by rw [h])]
   unfold M.SS.get
   simp only [hs]
  ·rw [if_neg (fun z => h (M.bs_inj z)), M.wrap64_id (by omega) (by omega), show (i : Int) + 1 = ((i + 1 : Nat) : Int) from by omega]
   refine ih (i + 1) (by omega) ?_
   intro j hj
   rcases Nat.lt_or_ge j i with q | q
   ·exact hb j q
   ·obtain rfl : j = i := by omega
    exact h
theorem pleachref16_Get.ev (l0 l1 : List ByteArray) (a b name : ByteArray) (r : ByteArray × Bool) (h : pleachref16_Get.f l0 l1 a b name = some r) : ∃ k, pleachref16_Get_p.f k l0 l1 a b name = some r := by
 unfold pleachref16_Get.f at h
 split at h
 case isFalse => cases h
 case isTrue hh =>
  refine ⟨l0.length + 1, ?_⟩
  rw [← h, hh.1]
  exact pleachref16_Get.loop l0 a b name hh.2 l0.length 0 (by omega) (fun j hj => absurd hj (by omega))
theorem pleachref16_Get.calls (A0_0 : Option Addr) (c0_0 : Nat) (l0_0 : List ByteArray) (A0_1 : Option Addr) (c0_1 : Nat) (l0_1 : List ByteArray) (a0_2 : ByteArray) (a0_3 : ByteArray) (a1 : ByteArray) (r1 : ByteArray) (r2 : Bool) (w : World) (hr0_0 : Kd.C Kd.string w A0_0 l0_0.length l0_0) (hc0_0 : l0_0.length ≤ c0_0) (hr0_1 : Kd.C Kd.string w A0_1 l0_1.length l0_1) (hc0_1 : l0_1.length ≤ c0_1) (h : pleachref16_Get.f l0_0 l0_1 a0_2 a0_3 a1 = some (r1, r2)) :
    Calls Tryd.prog 65 #[.agg #[.slice A0_0 l0_0.length c0_0, .slice A0_1 l0_1.length c0_1, .string a0_2, .string a0_3], .string a1] w fun e w' => e = .returned (.tuple #[.string r1, .bool r2]) ∧ Below w.heap.size w w' := by
 obtain ⟨k, hk⟩ := pleachref16_Get.ev _ _ _ _ _ _ h
 exact pleachref16_Get_p.calls (k := k) (w := w) (h := hk) (hr0_0 := hr0_0) (hc0_0 := hc0_0) (hr0_1 := hr0_1) (hc0_1 := hc0_1)
end Go.Proofs.YtikdbklmhjlfoaaDoor.ECommitKnots
