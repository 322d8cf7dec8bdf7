-- Laid by this session's own program (wip/tools/fold.py): this session's texts, cut to what the claim names and put together; Lean checks it.
import Derived.Test.YtikdbklmhjlfoaaDoorVCommitKnots1
import Derived.Test.YtikdbklmhjlfoaaDoorVCommitKnots11
import Derived.Test.YtikdbklmhjlfoaaDoorXCommitKnots1
namespace Go.Proofs.YtikdbklmhjlfoaaDoor.ECommitKnots
open Go.RowKit Go.Proofs.YtikdbklmhjlfoaaDoorW.PrintWords Go.Proofs.YtikdbklmhjlfoaaDoorW.PrintLast Go.Proofs.YtikdbklmhjlfoaaDoorW.PrintMore
attribute [local go_sem] M.run_leq M.run_gtr M.run_geq max2_int min2_int max_two min_two max_three min_three max_four min_four
set_option linter.unusedVariables false
set_option linter.unusedSimpArgs false
def pleachref04_fix_p.f (a0_0 : ByteArray) (a0_1 : Int) (a0_2 : Int) (a1 : Int) : Option (ByteArray × Int × Int × ByteArray) := if a0_2 = 0 then (if a1 < 0 then (some (a0_0, a0_1, 3, (⟨#[]⟩ : ByteArray))) else (if a1 > (wrap64 ((a0_0.size : Int) - a0_1)) then (some (a0_0, a0_1, 3, (⟨#[]⟩ : ByteArray))) else (if 0 ≤ a0_1 then (if a0_1 ≤ (wrap64 (a0_1 + a1)) then (if (wrap64 (a0_1 + a1)) ≤ (a0_0.size : Int) then (some (a0_0, wrap64 (a0_1 + a1), a0_2, a0_0.extract (a0_1 : Int).toNat ((wrap64 (a0_1 + a1)) : Int).toNat)) else (none)) else (none)) else (none)))) else (some (a0_0, a0_1, a0_2, (⟨#[]⟩ : ByteArray)))
set_option maxHeartbeats 8000000 in
set_option maxRecDepth 100000 in
theorem pleachref04_fix_p.calls (a0_0 : ByteArray) (a0_1 : Int) (a0_2 : Int) (a1 : Int) (r1 : ByteArray) (r2 : Int) (r3 : Int) (r4 : ByteArray) (w : World) (h : pleachref04_fix_p.f a0_0 a0_1 a0_2 a1 = some (r1, r2, r3, r4)) :
    Calls Tryd.prog 57 #[.agg #[.string a0_0, .int .i64 a0_1, .int .i64 a0_2], .int .i64 a1] w fun e w' => e = .returned (.tuple #[.agg #[.string r1, .int .i64 r2, .int .i64 r3], .string r4]) ∧ Below w.heap.size w w' := by
 have hu70 := Tryd.underlying70
 have HB := Aside0.mk (Below.refl w.heap.size w)
 have H : (if a0_2 = 0 then (if a1 < 0 then (some (a0_0, a0_1, 3, (⟨#[]⟩ : ByteArray))) else (if a1 > (wrap64 ((a0_0.size : Int) - a0_1)) then (some (a0_0, a0_1, 3, (⟨#[]⟩ : ByteArray))) else (if 0 ≤ a0_1 then (if a0_1 ≤ (wrap64 (a0_1 + a1)) then (if (wrap64 (a0_1 + a1)) ≤ (a0_0.size : Int) then (some (a0_0, wrap64 (a0_1 + a1), a0_2, a0_0.extract (a0_1 : Int).toNat ((wrap64 (a0_1 + a1)) : Int).toNat)) else (none)) else (none)) else (none)))) else (some (a0_0, a0_1, a0_2, (⟨#[]⟩ : ByteArray)))) = some (r1, r2, r3, r4) := h
 clear h
 by_cases c3 : a0_2 = 0
 ·rw [if_pos c3] at H
  have c3b0 : (a0_2 == 0) = true := beq_iff_eq.mpr c3
  have c3b1 : (a0_2 != 0) = false := bne_eq_false_iff_eq.mpr c3
  clear c3
  by_cases c4 : a1 < 0
  ·rw [if_pos c4] at H
   have c4b0 := decide_eq_true c4
   clear c4
   simp only [Option.some.injEq, Prod.mk.injEq] at H
   obtain ⟨rfl, rfl, rfl, rfl⟩ := H
   go_enter Tryd.func57, Tryd.ntmps57
   go_wp2_with (first | ((with_reducible refine gate_dst (N := 2) rfl ?_); (try (refine gate_guard (by rfl) ?_; dsimp only)); refine M.bx 2 70 (#[.string a0_0, .int .i64 a0_1, .int .i64 a0_2]) ?_; intro zaa hg w5 hbox hb; have zab := Aside0.mk (hbox); have zac := M.upG HB hg; have zad := M.upG HB hg; replace HB := M.upS HB hb; clear hb hbox hg) | ((with_reducible refine gate_dst (N := 4) rfl ?_); (try (refine gate_guard (by rfl) ?_; dsimp only)); refine M.bx 4 70 (#[.string (⟨#[]⟩ : ByteArray), .int .i64 0, .int .i64 0]) ?_; intro zae hg w6 hbox hb; have zaf := Aside0.mk (hbox); have zag := M.upG HB hg; have zah := M.upG HB hg; replace HB := M.upS HB hb; have zai := M.bkL zab hg; have zaj := M.bkG zab hg; replace zab := M.bkB zab hb; clear hb hbox hg; have zak := zai.out; have zal := zaj.out; obtain ⟨zam, zan, zao⟩ := M.bc3 (w := w6) (a := .string a0_0) (b := .int .i64 a0_1) (c := .int .i64 a0_2) zab.out; obtain ⟨zap, zaq, zar⟩ := M.bf3 zab; obtain ⟨zas, zat, zau⟩ := M.bc3 (w := w6) (a := .string (⟨#[]⟩ : ByteArray)) (b := .int .i64 0) (c := .int .i64 0) zaf.out; obtain ⟨zav, zaw, zax⟩ := M.bf3 zaf))
   refine bodyPost_ret (results_ct rfl _ _ zae 70 #[.string a0_0, .int .i64 a0_1, .int .i64 3] (0, 0) _ rfl (by refine M.fp (cs := #[.string a0_0, .int .i64 a0_1, .int .i64 0]) ?_ 2; refine M.fp (cs := #[.string a0_0, .int .i64 0, .int .i64 0]) ?_ 1; refine M.fp (cs := #[.string (⟨#[]⟩ : ByteArray), .int .i64 0, .int .i64 0]) ?_ 0; refine M.fr ?_ zaj; exact M.bk zaf) Tryd.underlying70 rfl (by kernel_rfl)) rfl ?_
   exact M.fin (M.up HB)
  ·rw [if_neg c4] at H
   have c4b0 := decide_eq_false c4
   clear c4
   by_cases c10 : a1 > (wrap64 ((a0_0.size : Int) - a0_1))
   ·rw [if_pos c10] at H
    have c10b0 := decide_eq_true c10
    clear c10
    simp only [Option.some.injEq, Prod.mk.injEq] at H
    obtain ⟨rfl, rfl, rfl, rfl⟩ := H
    go_enter Tryd.func57, Tryd.ntmps57
    go_wp2_with (first | ((with_reducible refine gate_dst (N := 2) rfl ?_); (try (refine gate_guard (by rfl) ?_; dsimp only)); refine M.bx 2 70 (#[.string a0_0, .int .i64 a0_1, .int .i64 a0_2]) ?_; intro zaa hg w11 hbox hb; have zab := Aside0.mk (hbox); have zac := M.upG HB hg; have zad := M.upG HB hg; replace HB := M.upS HB hb; clear hb hbox hg) | ((with_reducible refine gate_dst (N := 4) rfl ?_); (try (refine gate_guard (by rfl) ?_; dsimp only)); refine M.bx 4 70 (#[.string (⟨#[]⟩ : ByteArray), .int .i64 0, .int .i64 0]) ?_; intro zae hg w12 hbox hb; have zaf := Aside0.mk (hbox); have zag := M.upG HB hg; have zah := M.upG HB hg; replace HB := M.upS HB hb; have zai := M.bkL zab hg; have zaj := M.bkG zab hg; replace zab := M.bkB zab hb; clear hb hbox hg; have zay := zai.out; have zaz := zaj.out; obtain ⟨zaA, zaB, zaC⟩ := M.bc3 (w := w12) (a := .string a0_0) (b := .int .i64 a0_1) (c := .int .i64 a0_2) zab.out; obtain ⟨zaD, zaE, zaF⟩ := M.bf3 zab; obtain ⟨zaG, zaH, zaI⟩ := M.bc3 (w := w12) (a := .string (⟨#[]⟩ : ByteArray)) (b := .int .i64 0) (c := .int .i64 0) zaf.out; obtain ⟨zaJ, zaK, zaL⟩ := M.bf3 zaf))
    refine bodyPost_ret (results_ct rfl _ _ zae 70 #[.string a0_0, .int .i64 a0_1, .int .i64 3] (0, 0) _ rfl (by refine M.fp (cs := #[.string a0_0, .int .i64 a0_1, .int .i64 0]) ?_ 2; refine M.fp (cs := #[.string a0_0, .int .i64 0, .int .i64 0]) ?_ 1; refine M.fp (cs := #[.string (⟨#[]⟩ : ByteArray), .int .i64 0, .int .i64 0]) ?_ 0; refine M.fr ?_ zaj; exact M.bk zaf) Tryd.underlying70 rfl (by kernel_rfl)) rfl ?_
    exact M.fin (M.up HB)
   ·rw [if_neg c10] at H
    have c10b0 := decide_eq_false c10
    clear c10
    by_cases c16 : 0 ≤ a0_1
    ·rw [if_pos c16] at H
     have c16b0 := eq_true c16
     have c16b1 := decide_eq_true c16
     clear c16
     by_cases c17 : a0_1 ≤ (wrap64 (a0_1 + a1))
     ·rw [if_pos c17] at H
      have c17b0 := eq_true c17
      have c17b1 := decide_eq_true c17
      by_cases c18 : (wrap64 (a0_1 + a1)) ≤ (a0_0.size : Int)
      ·rw [if_pos c18] at H
       have c18b0 := eq_true c18
       have c18b1 := decide_eq_true c18
       simp only [Option.some.injEq, Prod.mk.injEq] at H
       obtain ⟨rfl, rfl, rfl, rfl⟩ := H
       go_enter Tryd.func57, Tryd.ntmps57
       go_wp2_with (first | ((with_reducible refine gate_dst (N := 2) rfl ?_); (try (refine gate_guard (by rfl) ?_; dsimp only)); refine M.bx 2 70 (#[.string a0_0, .int .i64 a0_1, .int .i64 a0_2]) ?_; intro zaa hg w19 hbox hb; have zab := Aside0.mk (hbox); have zac := M.upG HB hg; have zad := M.upG HB hg; replace HB := M.upS HB hb; clear hb hbox hg) | ((with_reducible refine gate_dst (N := 4) rfl ?_); (try (refine gate_guard (by rfl) ?_; dsimp only)); refine M.bx 4 70 (#[.string (⟨#[]⟩ : ByteArray), .int .i64 0, .int .i64 0]) ?_; intro zae hg w20 hbox hb; have zaf := Aside0.mk (hbox); have zag := M.upG HB hg; have zah := M.upG HB hg; replace HB := M.upS HB hb; have zai := M.bkL zab hg; have zaj := M.bkG zab hg; replace zab := M.bkB zab hb; clear hb hbox hg; have zaM := zai.out; have zaN := zaj.out; obtain ⟨zaO, zaP, zaQ⟩ := M.bc3 (w := w20) (a := .string a0_0) (b := .int .i64 a0_1) (c := .int .i64 a0_2) zab.out; obtain ⟨zaR, zaS, zaT⟩ := M.bf3 zab; obtain ⟨zaU, zaV, zaW⟩ := M.bc3 (w := w20) (a := .string (⟨#[]⟩ : ByteArray)) (b := .int .i64 0) (c := .int .i64 0) zaf.out; obtain ⟨zaX, zaY, zaZ⟩ := M.bf3 zaf))
       refine bodyPost_ret (results_ct rfl _ _ zae 70 #[.string a0_0, .int .i64 (wrap64 (a0_1 + a1)), .int .i64 a0_2] (0, 0) _ rfl (by refine M.fp (cs := #[.string a0_0, .int .i64 (wrap64 (a0_1 + a1)), .int .i64 0]) ?_ 2; refine M.fp (cs := #[.string a0_0, .int .i64 0, .int .i64 0]) ?_ 1; refine M.fp (cs := #[.string (⟨#[]⟩ : ByteArray), .int .i64 0, .int .i64 0]) ?_ 0; refine M.fr ?_ zaj; exact M.bk zaf) Tryd.underlying70 rfl (by kernel_rfl)) rfl ?_
       exact M.fin (M.up HB)
      ·exact M.nf c18 H
     ·exact M.nf c17 H
    ·exact M.nf c16 H
 ·rw [if_neg c3] at H
  have c3b0 : (a0_2 == 0) = false := beq_eq_false_iff_ne.mpr c3
  have c3b1 : (a0_2 != 0) = true := bne_iff_ne.mpr c3
  simp only [Option.some.injEq, Prod.mk.injEq] at H
  obtain ⟨rfl, rfl, rfl, rfl⟩ := H
  go_enter Tryd.func57, Tryd.ntmps57
  go_wp2_with (first | ((with_reducible refine gate_dst (N := 2) rfl ?_); (try (refine gate_guard (by rfl) ?_; dsimp only)); refine M.bx 2 70 (#[.string a0_0, .int .i64 a0_1, .int .i64 a0_2]) ?_; intro zaa hg w24 hbox hb; have zab := Aside0.mk (hbox); have zac := M.upG HB hg; have zad := M.upG HB hg; replace HB := M.upS HB hb; clear hb hbox hg) | ((with_reducible refine gate_dst (N := 4) rfl ?_); (try (refine gate_guard (by rfl) ?_; dsimp only)); refine M.bx 4 70 (#[.string (⟨#[]⟩ : ByteArray), .int .i64 0, .int .i64 0]) ?_; intro zae hg w25 hbox hb; have zaf := Aside0.mk (hbox); have zag := M.upG HB hg; have zah := M.upG HB hg; replace HB := M.upS HB hb; have zai := M.bkL zab hg; have zaj := M.bkG zab hg; replace zab := M.bkB zab hb; clear hb hbox hg; have za0 := zai.out; have za1 := zaj.out; obtain ⟨za2, za3, za4⟩ := M.bc3 (w := w25) (a := .string a0_0) (b := .int .i64 a0_1) (c := .int .i64 a0_2) zab.out; obtain ⟨za5, za6, za7⟩ := M.bf3 zab; obtain ⟨za8, za9, zba⟩ := M.bc3 (w := w25) (a := .string (⟨#[]⟩ : ByteArray)) (b := .int .i64 0) (c := .int .i64 0) zaf.out; obtain ⟨zbb, zbc, zbd⟩ := M.bf3 zaf))
  refine bodyPost_ret (results_ct rfl _ _ zae 70 #[.string a0_0, .int .i64 a0_1, .int .i64 a0_2] (0, 0) _ rfl (by refine M.fp (cs := #[.string a0_0, .int .i64 a0_1, .int .i64 0]) ?_ 2; refine M.fp (cs := #[.string a0_0, .int .i64 0, .int .i64 0]) ?_ 1; refine M.fp (cs := #[.string (⟨#[]⟩ : ByteArray), .int .i64 0, .int .i64 0]) ?_ 0; exact M.bk zaf) Tryd.underlying70 rfl (by kernel_rfl)) rfl ?_
  exact M.fin (M.up HB)
def pleachref04_fix.f (a0_0 : ByteArray) (a0_1 : Int) (a0_2 : Int) (a1 : Int) : Option (ByteArray × Int × Int × ByteArray) :=
  if M.sok a0_0 a0_1 ∧ -9223372036854775808 ≤ a1 ∧ a1 ≤ 9223372036854775807 then some (a0_0, (M.xfix a0_0 a0_1 a0_2 a1).2.1, (M.xfix a0_0 a0_1 a0_2 a1).2.2, (M.xfix a0_0 a0_1 a0_2 a1).1) else none
theorem pleachref04_fix.ev (s : ByteArray) (p er n : Int) (r : ByteArray × Int × Int × ByteArray) (h : pleachref04_fix.f s p er n = some r) : pleachref04_fix_p.f s p er n = some r := by
 unfold pleachref04_fix.f at h
 split at h
 case isFalse => cases h
 case isTrue hh =>
  obtain ⟨hs, hn, hn'⟩ := hh
  unfold pleachref04_fix_p.f
  rw [← h]
  unfold M.xfix
  by_cases he : er = 0
  ·subst he
   have hc := M.fix_code s hs hn hn'
   simp only [if_true] at hc ⊢
   generalize M.sfix s p n = q at hc ⊢
   revert hc
   (repeat' split) <;> intro hc <;> first | (cases hc; rfl) | (cases hc; done)
  ·simp only [if_neg he]; rfl
theorem pleachref04_fix.calls (a0_0 : ByteArray) (a0_1 : Int) (a0_2 : Int) (a1 : Int) (r1 : ByteArray) (r2 : Int) (r3 : Int) (r4 : ByteArray) (w : World) (h : pleachref04_fix.f a0_0 a0_1 a0_2 a1 = some (r1, r2, r3, r4)) :
    Calls Tryd.prog 57 #[.agg #[.string a0_0, .int .i64 a0_1, .int .i64 a0_2], .int .i64 a1] w fun e w' => e = .returned (.tuple #[.agg #[.string r1, .int .i64 r2, .int .i64 r3], .string r4]) ∧ Below w.heap.size w w' := by
 exact pleachref04_fix_p.calls (w := w) (h := pleachref04_fix.ev _ _ _ _ _ h)
def pleachref04_Byte_p.f (a0_0 : ByteArray) (a0_1 : Int) (a0_2 : Int) : Option (ByteArray × Int × Int × Int) := (pleachref04_fix.f a0_0 a0_1 a0_2 1).bind fun bt284 => (if bt284.2.2.1 = 0 then (if 0 < (bt284.2.2.2.size : Int) then (some (bt284.1, bt284.2.1, bt284.2.2.1, wrap64 (bt bt284.2.2.2 0))) else (none)) else (some (bt284.1, bt284.2.1, bt284.2.2.1, 0)))
set_option maxHeartbeats 8000000 in
set_option maxRecDepth 100000 in
theorem pleachref04_Byte_p.calls (a0_0 : ByteArray) (a0_1 : Int) (a0_2 : Int) (r1 : ByteArray) (r2 : Int) (r3 : Int) (r4 : Int) (w : World) (h : pleachref04_Byte_p.f a0_0 a0_1 a0_2 = some (r1, r2, r3, r4)) :
    Calls Tryd.prog 36 #[.agg #[.string a0_0, .int .i64 a0_1, .int .i64 a0_2]] w fun e w' => e = .returned (.tuple #[.agg #[.string r1, .int .i64 r2, .int .i64 r3], .int .i64 r4]) ∧ Below w.heap.size w w' := by
 have hu70 := Tryd.underlying70
 have HB := Aside0.mk (Below.refl w.heap.size w)
 have H : ((pleachref04_fix.f a0_0 a0_1 a0_2 1).bind fun bt284 => (if bt284.2.2.1 = 0 then (if 0 < (bt284.2.2.2.size : Int) then (some (bt284.1, bt284.2.1, bt284.2.2.1, wrap64 (bt bt284.2.2.2 0))) else (none)) else (some (bt284.1, bt284.2.1, bt284.2.2.1, 0)))) = some (r1, r2, r3, r4) := h
 clear h
 replace H := Option.bind_eq_some_iff.mp H
 obtain ⟨⟨t284, t285, t286, t287⟩, A20, H⟩ := H
 replace H : (if t286 = 0 then (if 0 < (t287.size : Int) then (some (t284, t285, t286, wrap64 (bt t287 0))) else (none)) else (some (t284, t285, t286, 0))) = some (r1, r2, r3, r4) := H
 have A2 := Aside0.mk A20
 clear A20
 by_cases c3 : t286 = 0
 ·rw [if_pos c3] at H
  have c3b0 : (t286 == 0) = true := beq_iff_eq.mpr c3
  have c3b1 : (t286 != 0) = false := bne_eq_false_iff_eq.mpr c3
  clear c3
  by_cases c4 : 0 < (t287.size : Int)
  ·rw [if_pos c4] at H
   have c4b0 := decide_eq_true c4
   have c4b1 : decide (0 < t287.size) = true := decide_eq_true (by omega)
   clear c4
   simp only [Option.some.injEq, Prod.mk.injEq] at H
   obtain ⟨rfl, rfl, rfl, rfl⟩ := H
   go_enter Tryd.func36, Tryd.ntmps36
   try go_wp2_with (first | ((with_reducible refine gate_dst (N := 1) rfl ?_); refine M.bx 1 70 (#[.string a0_0, .int .i64 a0_1, .int .i64 a0_2]) ?_; intro zbe hg w6 hbox hb; have zbf := Aside0.mk (hbox); have zbg := M.upG HB hg; have zbh := M.upG HB hg; replace HB := M.upS HB hb; clear hb hbox hg) | ((with_reducible refine gate_dst (N := 2) rfl ?_); refine M.bx 2 70 (#[.string (⟨#[]⟩ : ByteArray), .int .i64 0, .int .i64 0]) ?_; intro zbi hg w7 hbox hb; have zbj := Aside0.mk (hbox); have zbk := M.upG HB hg; have zbl := M.upG HB hg; replace HB := M.upS HB hb; have zbm := M.bkL zbf hg; have zbn := M.bkG zbf hg; replace zbf := M.bkB zbf hb; clear hb hbox hg; have zbo := zbm.out; have zbp := zbn.out; obtain ⟨zas, zat, zau⟩ := M.bc3 (w := w7) (a := .string a0_0) (b := .int .i64 a0_1) (c := .int .i64 a0_2) zbf.out; obtain ⟨zav, zaw, zax⟩ := M.bf3 zbf) | ((with_reducible refine gate_callee (f := 57) rfl ?_); refine M.goes (some 7) Tryd.func57 #[.agg #[.string a0_0, .int .i64 a0_1, .int .i64 a0_2], .int .i64 1] rfl ?_; (with_reducible refine (pleachref04_fix.calls a0_0 a0_1 a0_2 1 t284 t285 t286 t287 _ A2.out).mono ?_); rintro e w10 ⟨rfl, hb⟩; refine ⟨_, rfl, ?_⟩; replace zbf := M.bkB zbf hb; replace zbj := M.bkB zbj hb; replace HB := M.upS HB hb; (try clear hb); obtain ⟨zbq, zbr, zbs⟩ := M.bc3 (w := w10) (a := .string a0_0) (b := .int .i64 a0_1) (c := .int .i64 a0_2) zbf.out; obtain ⟨zbt, zbu, zbv⟩ := M.bf3 zbf))
   have n0_ : Aside0 ((((w10.setCell ⟨zbe, 0, none⟩ (.string t284)).setCell ⟨zbe, 1, none⟩ (.int .i64 t285)).setCell ⟨zbe, 2, none⟩ (.int .i64 t286)).heap[zbe]? = some (.cells #[.string t284, .int .i64 t285, .int .i64 t286] 70 (0, 0))) := ⟨by refine M.fp (cs := #[.string t284, .int .i64 t285, .int .i64 a0_2]) ?_ 2; refine M.fp (cs := #[.string t284, .int .i64 a0_1, .int .i64 a0_2]) ?_ 1; refine M.fp (cs := #[.string a0_0, .int .i64 a0_1, .int .i64 a0_2]) ?_ 0; exact M.bk zbf⟩
   have n1_ : Aside0 ((((w10.setCell ⟨zbe, 0, none⟩ (.string t284)).setCell ⟨zbe, 1, none⟩ (.int .i64 t285)).setCell ⟨zbe, 2, none⟩ (.int .i64 t286)).heap[zbi]? = some (.cells #[.string (⟨#[]⟩ : ByteArray), .int .i64 0, .int .i64 0] 70 (0, 0))) := ⟨by refine M.fr ?_ zbn; refine M.fr ?_ zbn; refine M.fr ?_ zbn; exact M.bk zbj⟩
   have n2_ : Aside0 (Below w.heap.size w (((w10.setCell ⟨zbe, 0, none⟩ (.string t284)).setCell ⟨zbe, 1, none⟩ (.int .i64 t285)).setCell ⟨zbe, 2, none⟩ (.int .i64 t286))) := ⟨M.up HB⟩
   (try clear zbf)
   (try clear zbj)
   (try clear HB)
   generalize (((w10.setCell ⟨zbe, 0, none⟩ (.string t284)).setCell ⟨zbe, 1, none⟩ (.int .i64 t285)).setCell ⟨zbe, 2, none⟩ (.int .i64 t286)) = w12 at n0_ n1_ n2_ ⊢
   have zbf := n0_
   have zbj := n1_
   have HB := n2_
   clear n0_ n1_ n2_
   replace zbf := Aside0.mk (blk_drew zbf.out); replace zbj := Aside0.mk (blk_drew zbj.out); replace HB := Aside0.mk (below_drew1 HB.out)
   have p5 : 0 ≤ (0 : Int) := (by omega)
   have q5 : 0 < t287.size := (by have : (0 : Int) < (t287.size : Int) := M.dt; omega)
   have hx5 : ∀ h : 0 < t287.size, ((t287[0]'h).toNat : Int) = bt t287 0 := bt_at t287 0
   clear p5
   have qi5 : (0 < (t287.size : Int)) = True := eq_true (M.dt)
   replace q5 := eq_true q5
   refine start_ (n := 6) (S := fun w' => w'.cell? ⟨zbe, 0, none⟩ = some (.string t284) ∧ w'.cell? ⟨zbe, 1, none⟩ = some (.int .i64 t285) ∧ w'.cell? ⟨zbe, 2, none⟩ = some (.int .i64 t286)) (ds := []) #[false, false, false, false, false, false] (by kernel_rfl) rfl rfl ⟨(blk_cell zbf.out 0).trans rfl, (blk_cell zbf.out 1).trans rfl, (blk_cell zbf.out 2).trans rfl⟩ (fun hHeld => ?_)
   generalize w12.drew = w13 at zbf zbj HB hHeld ⊢
   refine pure_ (i := 1) (N := some 15) (v := ?_) (a' := ?_) #[false, true, false, false, false, false] rfl rfl (by kernel_rfl) (fun _ _ _ h => h) (Or.inl ⟨by rfl, ?_⟩) ?_ ?_
   rotate_left
   ·intro w'
    go_simp
    with_reducible rfl
   rotate_left
   ·simp only [Act.put, List.setIfInBounds_toArray, List.set_cons_zero, List.set_cons_succ, i64_w, i32_w]
    rfl
   refine take_ (i := 0) (N := some 14) (v := ?_) (a' := ?_) #[true, true, false, false, false, false] rfl rfl (by kernel_rfl) (fun _ _ _ h => h) (Or.inl ⟨by rfl, ?_⟩) hHeld ?_ ?_
   rotate_left
   ·rintro w' ⟨s0, s1, s2⟩
    go_simp
    with_reducible rfl
   rotate_left
   ·simp only [Act.put, List.setIfInBounds_toArray, List.set_cons_zero, List.set_cons_succ, i64_w, i32_w]
    rfl
   refine take_ (i := 2) (N := some 16) (v := ?_) (a' := ?_) #[true, true, true, false, false, false] rfl rfl (by kernel_rfl) (fun _ _ _ h => h) (Or.inl ⟨by rfl, ?_⟩) hHeld ?_ ?_
   rotate_left
   ·rintro w' ⟨s0, s1, s2⟩
    go_simp
    with_reducible rfl
   rotate_left
   ·simp only [Act.put, List.setIfInBounds_toArray, List.set_cons_zero, List.set_cons_succ, i64_w, i32_w]
    rfl
   refine pure_ (i := 3) (N := some 17) (v := ?_) (a' := ?_) #[true, true, true, true, false, false] rfl rfl (by kernel_rfl) (fun _ _ _ h => h) (Or.inl ⟨by rfl, ?_⟩) ?_ ?_
   rotate_left
   ·intro w'
    go_simp
    with_reducible rfl
   rotate_left
   ·simp only [Act.put, List.setIfInBounds_toArray, List.set_cons_zero, List.set_cons_succ, i64_w, i32_w]
    rfl
   refine one_ (i := 4) (N := none) #[true, true, true, true, true, false] rfl rfl (by kernel_rfl) (by decide) (fun K hK => ?_)
   have hs14 : w13.cell? ⟨zbi, 0, none⟩ = some (.string (⟨#[]⟩ : ByteArray)) := (blk_cell zbj.out 0).trans rfl
   have hfs14 := blk_frozen zbj.out 0
   have hns14_0 := zbm.out
   have hms14_0 := zbn.out
   have hs15 : w13.cell? ⟨zbi, 1, none⟩ = some (.int .i64 0) := (blk_cell zbj.out 1).trans rfl
   have hfs15 := blk_frozen zbj.out 1
   have hns15_0 := zbm.out
   have hms15_0 := zbn.out
   have hs16 : w13.cell? ⟨zbi, 2, none⟩ = some (.int .i64 0) := (blk_cell zbj.out 2).trans rfl
   have hfs16 := blk_frozen zbj.out 2
   have hns16_0 := zbm.out
   have hms16_0 := zbn.out
   refine skip_ (w1 := ?_) (by rfl) rfl ?_ ?_
   rotate_left
   ·go_simp
    rfl
   refine hK.out _ _ ⟨((cell_far (p := ⟨zbi, _, none⟩) zbm.out _).trans (((cell_far (p := ⟨zbi, _, none⟩) zbm.out _).trans (((cell_far (p := ⟨zbi, _, none⟩) zbm.out _).trans (hHeld.1)))))), ((cell_far (p := ⟨zbi, _, none⟩) zbm.out _).trans (((cell_far (p := ⟨zbi, _, none⟩) zbm.out _).trans (((cell_far (p := ⟨zbi, _, none⟩) zbm.out _).trans (hHeld.2.1)))))), ((cell_far (p := ⟨zbi, _, none⟩) zbm.out _).trans (((cell_far (p := ⟨zbi, _, none⟩) zbm.out _).trans (((cell_far (p := ⟨zbi, _, none⟩) zbm.out _).trans (hHeld.2.2))))))⟩ (fun hHeld => ?_)
   clear hK K
   refine pure_ (i := 5) (N := some 3) (v := ?_) (a' := ?_) #[true, true, true, true, true, true] rfl rfl (by kernel_rfl) (fun _ _ _ h => h) (Or.inl ⟨by rfl, ?_⟩) ?_ ?_
   rotate_left
   ·intro w'
    go_simp
    with_reducible rfl
   rotate_left
   ·simp only [Act.put, List.setIfInBounds_toArray, List.set_cons_zero, List.set_cons_succ, i64_w, i32_w]
    rfl
   refine done_ (by kernel_rfl) ?_
   try go_wp2
   refine bodyPost_ret (results_ct rfl _ _ zbi 70 #[.string t284, .int .i64 t285, .int .i64 t286] (0, 0) _ rfl (by refine M.fp (cs := #[.string t284, .int .i64 t285, .int .i64 0]) ?_ 2; refine M.fp (cs := #[.string t284, .int .i64 0, .int .i64 0]) ?_ 1; refine M.fp (cs := #[.string (⟨#[]⟩ : ByteArray), .int .i64 0, .int .i64 0]) ?_ 0; exact M.bk zbj) Tryd.underlying70 rfl (by kernel_rfl)) rfl ?_
   exact M.fin (M.up HB)
  ·exact M.nf c4 H
 ·rw [if_neg c3] at H
  have c3b0 : (t286 == 0) = false := beq_eq_false_iff_ne.mpr c3
  have c3b1 : (t286 != 0) = true := bne_iff_ne.mpr c3
  simp only [Option.some.injEq, Prod.mk.injEq] at H
  obtain ⟨rfl, rfl, rfl, rfl⟩ := H
  go_enter Tryd.func36, Tryd.ntmps36
  go_wp2_with (first | ((with_reducible refine gate_dst (N := 1) rfl ?_); refine M.bx 1 70 (#[.string a0_0, .int .i64 a0_1, .int .i64 a0_2]) ?_; intro zbe hg w17 hbox hb; have zbf := Aside0.mk (hbox); have zbg := M.upG HB hg; have zbh := M.upG HB hg; replace HB := M.upS HB hb; clear hb hbox hg) | ((with_reducible refine gate_dst (N := 2) rfl ?_); refine M.bx 2 70 (#[.string (⟨#[]⟩ : ByteArray), .int .i64 0, .int .i64 0]) ?_; intro zbi hg w18 hbox hb; have zbj := Aside0.mk (hbox); have zbk := M.upG HB hg; have zbl := M.upG HB hg; replace HB := M.upS HB hb; have zbm := M.bkL zbf hg; have zbn := M.bkG zbf hg; replace zbf := M.bkB zbf hb; clear hb hbox hg; have zbw := zbm.out; have zbx := zbn.out; obtain ⟨zby, zbz, zbA⟩ := M.bc3 (w := w18) (a := .string a0_0) (b := .int .i64 a0_1) (c := .int .i64 a0_2) zbf.out; obtain ⟨zbB, zbC, zbD⟩ := M.bf3 zbf) | ((with_reducible refine gate_callee (f := 57) rfl ?_); refine M.goes (some 7) Tryd.func57 #[.agg #[.string a0_0, .int .i64 a0_1, .int .i64 a0_2], .int .i64 1] rfl ?_; (with_reducible refine (pleachref04_fix.calls a0_0 a0_1 a0_2 1 t284 t285 t286 t287 _ A2.out).mono ?_); rintro e w21 ⟨rfl, hb⟩; refine ⟨_, rfl, ?_⟩; replace zbf := M.bkB zbf hb; replace zbj := M.bkB zbj hb; replace HB := M.upS HB hb; (try clear hb); obtain ⟨zaO, zaP, zaQ⟩ := M.bc3 (w := w21) (a := .string a0_0) (b := .int .i64 a0_1) (c := .int .i64 a0_2) zbf.out; obtain ⟨zaR, zaS, zaT⟩ := M.bf3 zbf; obtain ⟨zaU, zaV, zaW⟩ := M.bc3 (w := w21) (a := .string (⟨#[]⟩ : ByteArray)) (b := .int .i64 0) (c := .int .i64 0) zbj.out; obtain ⟨zaX, zaY, zaZ⟩ := M.bf3 zbj))
  refine bodyPost_ret (results_ct rfl _ _ zbi 70 #[.string t284, .int .i64 t285, .int .i64 t286] (0, 0) _ rfl (by refine M.fp (cs := #[.string t284, .int .i64 t285, .int .i64 0]) ?_ 2; refine M.fp (cs := #[.string t284, .int .i64 0, .int .i64 0]) ?_ 1; refine M.fp (cs := #[.string (⟨#[]⟩ : ByteArray), .int .i64 0, .int .i64 0]) ?_ 0; refine M.fr ?_ zbn; refine M.fr ?_ zbn; refine M.fr ?_ zbn; exact M.bk zbj) Tryd.underlying70 rfl (by kernel_rfl)) rfl ?_
  exact M.fin (M.up HB)
def pleachref04_Byte.f (a0_0 : ByteArray) (a0_1 : Int) (a0_2 : Int) : Option (ByteArray × Int × Int × Int) :=
  if M.sok a0_0 a0_1 then some (a0_0, (M.xbyte a0_0 a0_1 a0_2).2.1, (M.xbyte a0_0 a0_1 a0_2).2.2, (M.xbyte a0_0 a0_1 a0_2).1) else none
theorem pleachref04_Byte.ev (s : ByteArray) (p er : Int) (r : ByteArray × Int × Int × Int) (h : pleachref04_Byte.f s p er = some r) : pleachref04_Byte_p.f s p er = some r := by
 unfold pleachref04_Byte.f at h
 split at h
 case isFalse => cases h
 case isTrue hs =>
  unfold pleachref04_Byte_p.f pleachref04_fix.f
  rw [if_pos ⟨hs, by decide, by decide⟩, Option.bind_some, ← h]
  have hb := M.byte_of s hs
  unfold M.xfix M.xbyte
  by_cases he : er = 0
  ·simp only [if_pos he]
   by_cases hp : p < s.size
   ·obtain ⟨e1, e2, e3⟩ := hb hp
    unfold M.sfix
    have c2 : ¬ ((1 : Int) < 0 ∨ (s.size : Int) - p < 1) := by omega
    rw [if_neg c2, if_pos hp]
    simp only [if_true]
    rw [if_pos e2, e3]
   ·unfold M.sfix
    have c2 : (1 : Int) < 0 ∨ (s.size : Int) - p < 1 := by omega
    rw [if_pos c2, if_neg hp]
    rfl
  ·simp only [if_neg he]
theorem pleachref04_Byte.calls (a0_0 : ByteArray) (a0_1 : Int) (a0_2 : Int) (r1 : ByteArray) (r2 : Int) (r3 : Int) (r4 : Int) (w : World) (h : pleachref04_Byte.f a0_0 a0_1 a0_2 = some (r1, r2, r3, r4)) :
    Calls Tryd.prog 36 #[.agg #[.string a0_0, .int .i64 a0_1, .int .i64 a0_2]] w fun e w' => e = .returned (.tuple #[.agg #[.string r1, .int .i64 r2, .int .i64 r3], .int .i64 r4]) ∧ Below w.heap.size w w' := by
 exact pleachref04_Byte_p.calls (w := w) (h := pleachref04_Byte.ev _ _ _ _ h)
mutual
def pleachref01_Get_p.j1 : Nat → ByteArray → Int → Option (Int × Int × Bool)
  | 0, _, _ => none
  | k + 1, x0, x5 => if x5 ≥ (x0.size : Int) then (pleachref01_Get_p.j2 k x0 x5 true) else (pleachref01_Get_p.j2 k x0 x5 (decide (x5 > 9)))
def pleachref01_Get_p.j2 : Nat → ByteArray → Int → Bool → Option (Int × Int × Bool)
  | 0, _, _, _ => none
  | k + 1, x0, x5, x27 => if x27 = true then (some (0, 0, false)) else (pleachref01_Get_p.l1 k x0 x5 0 x5)
def pleachref01_Get_p.l1 : Nat → ByteArray → Int → Int → Int → Option (Int × Int × Bool)
  | 0, _, _, _, _ => none
  | k + 1, x0, x5, x6, x7 => if x7 ≥ 0 then (if 0 ≤ x7 then (if x7 < (x0.size : Int) then (pleachref01_Get_p.l1 k x0 x5 (IntKind.u64.wrap ((IntKind.u64.wrap (x6 * 128)) + (Int.tmod (IntKind.u64.wrap (bt x0 x7)) 128))) (wrap64 (x7 - 1))) else (none)) else (none)) else ((pleachref01_Put.f x6).bind fun t288 => (if 0 ≤ (wrap64 (x5 + 1)) then (if (wrap64 (x5 + 1)) ≤ (x0.size : Int) then (if t288.toList = (x0.extract 0 ((wrap64 (x5 + 1)) : Int).toNat).toList then (some (x6, wrap64 (x5 + 1), true)) else (some (0, 0, false))) else (none)) else (none)))
def pleachref01_Get_p.l0 : Nat → ByteArray → Int → Option (Int × Int × Bool)
  | 0, _, _ => none
  | k + 1, x0, x5 => if x5 < (x0.size : Int) then (if 0 ≤ x5 then (if (bt x0 x5) ≥ 128 then (pleachref01_Get_p.l0 k x0 (wrap64 (x5 + 1))) else (pleachref01_Get_p.j1 k x0 x5)) else (none)) else (pleachref01_Get_p.j1 k x0 x5)
end
def pleachref01_Get_p.f (k : Nat) (a0 : ByteArray) : Option (Int × Int × Bool) := pleachref01_Get_p.l0 k a0 0
theorem pleachref01_Get_p.mono_l : ∀ k, (∀ y0 y1, LeO (pleachref01_Get_p.j1 k y0 y1) (pleachref01_Get_p.j1 (k + 1) y0 y1)) ∧ (∀ y0 y1 y2, LeO (pleachref01_Get_p.j2 k y0 y1 y2) (pleachref01_Get_p.j2 (k + 1) y0 y1 y2)) ∧ (∀ y0 y1 y2 y3, LeO (pleachref01_Get_p.l1 k y0 y1 y2 y3) (pleachref01_Get_p.l1 (k + 1) y0 y1 y2 y3)) ∧ (∀ y0 y1, LeO (pleachref01_Get_p.l0 k y0 y1) (pleachref01_Get_p.l0 (k + 1) y0 y1))
  | 0 => ⟨fun _ _ r h => by simp [pleachref01_Get_p.j1] at h, fun _ _ _ r h => by simp [pleachref01_Get_p.j2] at h, fun _ _ _ _ r h => by simp [pleachref01_Get_p.l1] at h, fun _ _ r h => by simp [pleachref01_Get_p.l0] at h⟩
  | k + 1 => by
    obtain ⟨ih0, ih1, ih2, ih3⟩ := pleachref01_Get_p.mono_l k
    refine ⟨?_, ?_, ?_, ?_⟩
    · intro y0 y1
      unfold pleachref01_Get_p.j1
      repeat' first
      | (with_reducible exact ih0 _ _)
      | (with_reducible exact ih1 _ _ _)
      | (with_reducible exact ih2 _ _ _ _)
      | (with_reducible exact ih3 _ _)
      | (with_reducible exact LeO.refl _)
      | (with_reducible exact LeO.none _)
      | (with_reducible refine LeO.ite ?_ ?_)
      | (with_reducible refine LeO.bind ?_ (fun _ => ?_))
      | exact ih0 _ _
      | exact ih1 _ _ _
      | exact ih2 _ _ _ _
      | exact ih3 _ _
      | exact LeO.none _
      | refine LeO.ite ?_ ?_
      | refine LeO.bind ?_ (fun _ => ?_)
    · intro y0 y1 y2
      unfold pleachref01_Get_p.j2
      repeat' first
      | (with_reducible exact ih0 _ _)
      | (with_reducible exact ih1 _ _ _)
      | (with_reducible exact ih2 _ _ _ _)
      | (with_reducible exact ih3 _ _)
      | (with_reducible exact LeO.refl _)
      | (with_reducible exact LeO.none _)
      | (with_reducible refine LeO.ite ?_ ?_)
      | (with_reducible refine LeO.bind ?_ (fun _ => ?_))
      | exact ih0 _ _
      | exact ih1 _ _ _
      | exact ih2 _ _ _ _
      | exact ih3 _ _
      | exact LeO.none _
      | refine LeO.ite ?_ ?_
      | refine LeO.bind ?_ (fun _ => ?_)
    · intro y0 y1 y2 y3
      unfold pleachref01_Get_p.l1
      repeat' first
      | (with_reducible exact ih0 _ _)
      | (with_reducible exact ih1 _ _ _)
      | (with_reducible exact ih2 _ _ _ _)
      | (with_reducible exact ih3 _ _)
      | (with_reducible exact LeO.refl _)
      | (with_reducible exact LeO.none _)
      | (with_reducible refine LeO.ite ?_ ?_)
      | (with_reducible refine LeO.bind ?_ (fun _ => ?_))
      | exact ih0 _ _
      | exact ih1 _ _ _
      | exact ih2 _ _ _ _
      | exact ih3 _ _
      | exact LeO.none _
      | refine LeO.ite ?_ ?_
      | refine LeO.bind ?_ (fun _ => ?_)
    · intro y0 y1
      unfold pleachref01_Get_p.l0
      repeat' first
      | (with_reducible exact ih0 _ _)
      | (with_reducible exact ih1 _ _ _)
      | (with_reducible exact ih2 _ _ _ _)
      | (with_reducible exact ih3 _ _)
      | (with_reducible exact LeO.refl _)
      | (with_reducible exact LeO.none _)
      | (with_reducible refine LeO.ite ?_ ?_)
      | (with_reducible refine LeO.bind ?_ (fun _ => ?_))
      | exact ih0 _ _
      | exact ih1 _ _ _
      | exact ih2 _ _ _ _
      | exact ih3 _ _
      | exact LeO.none _
      | refine LeO.ite ?_ ?_
      | refine LeO.bind ?_ (fun _ => ?_)
theorem pleachref01_Get_p.mono : ∀ a0 k, LeO (pleachref01_Get_p.f k a0) (pleachref01_Get_p.f (k + 1) a0) := by
  intro a0 k
  obtain ⟨ih0, ih1, ih2, ih3⟩ := pleachref01_Get_p.mono_l k
  unfold pleachref01_Get_p.f
  repeat' first
      | (with_reducible exact ih0 _ _)
      | (with_reducible exact ih1 _ _ _)
      | (with_reducible exact ih2 _ _ _ _)
      | (with_reducible exact ih3 _ _)
      | (with_reducible exact LeO.refl _)
      | (with_reducible exact LeO.none _)
      | (with_reducible refine LeO.ite ?_ ?_)
      | (with_reducible refine LeO.bind ?_ (fun _ => ?_))
      | exact ih0 _ _
      | exact ih1 _ _ _
      | exact ih2 _ _ _ _
      | exact ih3 _ _
      | exact LeO.none _
      | refine LeO.ite ?_ ?_
      | refine LeO.bind ?_ (fun _ => ?_)
set_option maxHeartbeats 8000000 in
set_option maxRecDepth 100000 in
theorem pleachref01_Get_p.calls (k : Nat) (a0 : ByteArray) (r1 : Int) (r2 : Int) (r3 : Bool) (w : World) (h : pleachref01_Get_p.f k a0 = some (r1, r2, r3)) :
    Calls Tryd.prog 58 #[.string a0] w fun e w' => e = .returned (.tuple #[.int .u64 r1, .int .i64 r2, .bool r3]) ∧ Below w.heap.size w w' := by
 have HB := Aside0.mk (Below.refl w.heap.size w)
 have H : (pleachref01_Get_p.l0 k a0 0) = some (r1, r2, r3) := h
 clear h
 have HC2 := Aside0.mk H
 clear H
 go_enter Tryd.func58, Tryd.ntmps58
 go_upto_block 0 with (fail)
 go_cut [5] (fun v5 wc => ∃ (kq : Nat) (x5_1 : Int), v5 = .int .i64 x5_1 ∧ Aside0 (pleachref01_Get_p.j1 kq a0 x5_1 = some (r1, r2, r3)) ∧ Aside0 (kq ≤ k) ∧ Aside0 (Below w.heap.size w wc))
 case first =>
  have H := HC2.out
  clear HC2
  have H' := Aside0.mk H
  clear H
  go_wp2
  go_loopg [5] k (fun kq v5 w' => ∃ (x5_1 : Int), v5 = .int .i64 x5_1 ∧ Aside0 (pleachref01_Get_p.l0 kq a0 x5_1 = some (r1, r2, r3)) ∧ Aside0 (kq ≤ k) ∧ Aside0 (Below w.heap.size w w'))
  case atStart => exact ⟨(0), M.eqv, H', ⟨Nat.le_refl _⟩, ⟨M.up HB⟩⟩
  case round =>
   clear H'
   try clear p2
   obtain ⟨x5_1, rfl, HA, HK1, HB⟩ := hrel
   cases gk with
   | zero => exact absurd HA.out (by simp [pleachref01_Get_p.l0])
   | succ k1 =>
    have H := HA.out
    clear HA
    simp only [pleachref01_Get_p.l0] at H
    by_cases c3 : x5_1 < (a0.size : Int)
    ·rw [if_pos c3] at H
     have c3b0 := decide_eq_true c3
     clear c3
     (first | rw [c3b0] | (simp only [i64_w, i32_w]; rw [c3b0]) | skip)
     by_cases c4 : 0 ≤ x5_1
     ·rw [if_pos c4] at H
      have c4b0 := decide_eq_true c4
      clear c4
      by_cases c6 : (bt a0 x5_1) ≥ 128
      ·rw [if_pos c6] at H
       have c6b0 := decide_eq_true c6
       clear c6
       have H' := Aside0.mk H
       clear H
       have p5 : 0 ≤ (x5_1 : Int) := M.dt
       have q5 : x5_1 < (a0.size : Int) := M.dt
       have hx5 := bt_at a0 x5_1
       replace p5 := eq_true p5
       replace q5 := eq_true q5
       go_wp2
       go_roundg k1
       case measure => have := HK1.out; omega
       case rel => exact ⟨(wrap64 (x5_1 + 1)), M.eqv, H', ⟨by have := HK1.out; omega⟩, ⟨M.up HB⟩⟩
      ·rw [if_neg c6] at H
       have c6b0 := decide_eq_false c6
       clear c6
       have H' := Aside0.mk H
       clear H
       have p5 : 0 ≤ (x5_1 : Int) := M.dt
       have q5 : x5_1 < (a0.size : Int) := M.dt
       have hx5 := bt_at a0 x5_1
       replace p5 := eq_true p5
       replace q5 := eq_true q5
       go_wp2
       go_meet
       case rel => exact ⟨_, (x5_1), M.eqv, H', ⟨by have := HK1.out; first | omega | exact Nat.le_refl _⟩, ⟨M.up HB⟩⟩
     ·exact M.nf c4 H
    ·rw [if_neg c3] at H
     have c3b0 := decide_eq_false c3
     clear c3
     (first | rw [c3b0] | (simp only [i64_w, i32_w]; rw [c3b0]) | skip)
     have H' := Aside0.mk H
     clear H
     go_wp2
     go_meet
     case rel => exact ⟨_, (x5_1), M.eqv, H', ⟨by have := HK1.out; first | omega | exact Nat.le_refl _⟩, ⟨M.up HB⟩⟩
 case rest =>
  clear HC2
  (try clear p2); (try clear c3); (try clear c3b0); (try clear c4); (try clear c4b0); (try clear c5); (try clear p5); (try clear q5); (try clear hx5); (try clear c6); (try clear c6b0); (try clear p6); (try clear p2); (try clear p5); (try clear q5)
  obtain ⟨kq, x5_1, rfl, HA, HJ1, HB⟩ := hcut
  cases kq with
  | zero => exact absurd HA.out (by simp [pleachref01_Get_p.j1])
  | succ kj1 =>
   have H := HA.out
   clear HA
   simp only [pleachref01_Get_p.j1] at H
   have HC7 := Aside0.mk H
   clear H
   go_upto_region 4 with (fail)
   go_cut [27] (fun v27 wc => ∃ (kq : Nat) (x27_6 : Bool), v27 = .bool x27_6 ∧ Aside0 (pleachref01_Get_p.j2 kq a0 x5_1 x27_6 = some (r1, r2, r3)) ∧ Aside0 (kq ≤ kj1) ∧ Aside0 (Below w.heap.size w wc))
   case first =>
    have H := HC7.out
    clear HC7
    by_cases c8 : x5_1 ≥ (a0.size : Int)
    ·rw [if_pos c8] at H
     have c8b0 := decide_eq_true c8
     clear c8
     (first | rw [c8b0] | (simp only [i64_w, i32_w]; rw [c8b0]) | skip)
     have H' := Aside0.mk H
     clear H
     go_wp2
     go_meet
     case rel => exact ⟨_, (true), M.eqv, H', ⟨by have := HJ1.out; first | omega | exact Nat.le_refl _⟩, ⟨M.up HB⟩⟩
    ·rw [if_neg c8] at H
     have c8b0 := decide_eq_false c8
     clear c8
     (first | rw [c8b0] | (simp only [i64_w, i32_w]; rw [c8b0]) | skip)
     have H' := Aside0.mk H
     clear H
     go_wp2
     go_meet
     case rel => exact ⟨_, (decide (x5_1 > 9)), M.eqv, H', ⟨by have := HJ1.out; first | omega | exact Nat.le_refl _⟩, ⟨M.up HB⟩⟩
   case rest =>
    clear HC7
    (try clear p2); (try clear c3); (try clear c3b0); (try clear c4); (try clear c4b0); (try clear c5); (try clear p5); (try clear q5); (try clear hx5); (try clear c6); (try clear c6b0); (try clear p6); (try clear c8); (try clear c8b0); (try clear p2); (try clear p5); (try clear p6); (try clear q5)
    obtain ⟨kq, x27_6, rfl, HA, HJ6, HB⟩ := hcut
    cases kq with
    | zero => exact absurd HA.out (by simp [pleachref01_Get_p.j2])
    | succ kj6 =>
     have H := HA.out
     clear HA
     simp only [pleachref01_Get_p.j2] at H
     by_cases c9 : x27_6 = true
     ·subst c9
      have H1 : (some (0, 0, false)) = some (r1, r2, r3) := by rw [if_pos rfl] at H; exact H
      clear H
      have H := H1
      clear H1
      simp only [Option.some.injEq, Prod.mk.injEq] at H
      obtain ⟨rfl, rfl, rfl⟩ := H
      go_wp2
      go_ret3
      exact M.fin (M.up HB)
     ·replace c9 := Bool.eq_false_iff.mpr c9
      subst c9
      have H1 : (pleachref01_Get_p.l1 kj6 a0 x5_1 0 x5_1) = some (r1, r2, r3) := by rw [if_neg (show ¬ (false = true) by decide)] at H; exact H
      clear H
      have H := H1
      clear H1
      have H' := Aside0.mk H
      clear H
      go_wp2
      go_loopg [6, 7] kj6 (fun kq v6 v7 w' => ∃ (x6_3 : Int) (x7_3 : Int), v6 = .int .u64 x6_3 ∧ v7 = .int .i64 x7_3 ∧ Aside0 (pleachref01_Get_p.l1 kq a0 x5_1 x6_3 x7_3 = some (r1, r2, r3)) ∧ Aside0 (kq ≤ kj6) ∧ Aside0 (Below w.heap.size w w'))
      case atStart => exact ⟨(0), (x5_1), M.eqv, M.eqv, H', ⟨Nat.le_refl _⟩, ⟨M.up HB⟩⟩
      case round =>
       clear H'
       (try clear p2); (try clear c3); (try clear c3b0); (try clear c4); (try clear c4b0); (try clear c5); (try clear p5); (try clear q5); (try clear hx5); (try clear c6); (try clear c6b0); (try clear p6); (try clear c8); (try clear c8b0); (try clear c9); (try clear p2); (try clear p5); (try clear p6); (try clear q5)
       obtain ⟨x6_3, x7_3, rfl, rfl, HA, HK3, HB⟩ := hrel
       cases gk with
       | zero => exact absurd HA.out (by simp [pleachref01_Get_p.l1])
       | succ k3 =>
        have H := HA.out
        clear HA
        simp only [pleachref01_Get_p.l1] at H
        by_cases c10 : x7_3 ≥ 0
        ·rw [if_pos c10] at H
         have c10b0 := decide_eq_true c10
         clear c10
         by_cases c11 : 0 ≤ x7_3
         ·rw [if_pos c11] at H
          have c11b0 := decide_eq_true c11
          clear c11
          by_cases c12 : x7_3 < (a0.size : Int)
          ·rw [if_pos c12] at H
           have c12b0 := decide_eq_true c12
           clear c12
           have H' := Aside0.mk H
           clear H
           have p13 : 0 ≤ (x7_3 : Int) := M.dt
           have q13 : x7_3 < (a0.size : Int) := M.dt
           have hx13 := bt_at a0 x7_3
           replace p13 := eq_true p13
           replace q13 := eq_true q13
           go_wp2
           go_roundg k3
           case measure => have := HJ1.out; have := HJ6.out; have := HK3.out; omega
           case rel => exact ⟨(IntKind.u64.wrap ((IntKind.u64.wrap (x6_3 * 128)) + (Int.tmod (IntKind.u64.wrap (bt a0 x7_3)) 128))), (wrap64 (x7_3 - 1)), M.eqv, M.eqv, H', ⟨by have := HJ1.out; have := HJ6.out; have := HK3.out; omega⟩, ⟨M.up HB⟩⟩
          ·exact M.nf c12 H
         ·exact M.nf c11 H
        ·rw [if_neg c10] at H
         have c10b0 := decide_eq_false c10
         clear c10
         replace H := Option.bind_eq_some_iff.mp H
         obtain ⟨t288, A140, H⟩ := H
         replace H : (if 0 ≤ (wrap64 (x5_1 + 1)) then (if (wrap64 (x5_1 + 1)) ≤ (a0.size : Int) then (if t288.toList = (a0.extract 0 ((wrap64 (x5_1 + 1)) : Int).toNat).toList then (some (x6_3, wrap64 (x5_1 + 1), true)) else (some (0, 0, false))) else (none)) else (none)) = some (r1, r2, r3) := H
         have A14 := Aside0.mk A140
         clear A140
         obtain ⟨ji15, hji15⟩ : ∃ j_ : Int, (wrap64 (x5_1 + 1)) = j_ := ⟨_, rfl⟩
         replace H : (if 0 ≤ (ji15) then (if (ji15) ≤ (a0.size : Int) then (if t288.toList = (a0.extract 0 ((ji15) : Int).toNat).toList then (some (x6_3, ji15, true)) else (some (0, 0, false))) else (none)) else (none)) = some (r1, r2, r3) := by first | (rw [hji15] at H; exact H) | (simp only [hji15] at H ⊢; exact H)
         (try rw [hji15] at A14)
         have hji15w : (IntKind.i64.wrap (x5_1 + 1)) = ji15 := (i64_w _).trans hji15
         by_cases c16 : 0 ≤ (ji15)
         ·rw [if_pos c16] at H
          have c16b0 := eq_true c16
          have c16b1 := decide_eq_true c16
          clear c16
          by_cases c17 : (ji15) ≤ (a0.size : Int)
          ·rw [if_pos c17] at H
           have c17b0 := eq_true c17
           have c17b1 := decide_eq_true c17
           clear c17
           by_cases c18 : t288.toList = (a0.extract 0 ((ji15) : Int).toNat).toList
           ·rw [if_pos c18] at H
            have c18b0 : (t288.toList == (a0.extract 0 ((ji15) : Int).toNat).toList) = true := beq_iff_eq.mpr c18
            have c18b1 : (t288.toList != (a0.extract 0 ((ji15) : Int).toNat).toList) = false := bne_eq_false_iff_eq.mpr c18
            clear c18
            simp only [Option.some.injEq, Prod.mk.injEq] at H
            obtain ⟨rfl, rfl, rfl⟩ := H
            try go_wp2
            replace HB := Aside0.mk (below_drew1 HB.out)
            refine start_ (n := 7) (S := fun w' => True) (ds := []) #[false, false, false, false, false, false, false] (by kernel_rfl) rfl rfl trivial (fun hHeld => ?_)
            generalize wr.drew = w19 at HB hHeld ⊢
            refine pure_ (i := 0) (N := some 41) (v := ?_) (a' := ?_) #[true, false, false, false, false, false, false] rfl rfl (by kernel_rfl) (fun _ _ _ h => h) (Or.inl ⟨by rfl, ?_⟩) ?_ ?_
            rotate_left
            ·intro w'
             go_simp
             with_reducible rfl
            rotate_left
            ·simp only [Act.put, List.setIfInBounds_toArray, List.set_cons_zero, List.set_cons_succ, i64_w, i32_w]
             rfl
            refine pure_ (i := 2) (N := some 43) (v := ?_) (a' := ?_) #[true, false, true, false, false, false, false] rfl rfl (by kernel_rfl) (fun _ _ _ h => h) (Or.inl ⟨by rfl, ?_⟩) ?_ ?_
            rotate_left
            ·intro w'
             go_simp
             with_reducible rfl
            rotate_left
            ·simp only [Act.put, List.setIfInBounds_toArray, List.set_cons_zero, List.set_cons_succ, i64_w, i32_w]
             rfl
            refine pure_ (i := 3) (N := some 44) (v := ?_) (a' := ?_) #[true, false, true, true, false, false, false] rfl rfl (by kernel_rfl) (fun _ _ _ h => h) (Or.inl ⟨by rfl, ?_⟩) ?_ ?_
            rotate_left
            ·intro w'
             go_simp
             with_reducible rfl
            rotate_left
            ·simp only [Act.put, List.setIfInBounds_toArray, List.set_cons_zero, List.set_cons_succ, i64_w, i32_w]
             rfl
            refine pure_ (i := 4) (N := some 45) (v := ?_) (a' := ?_) #[true, false, true, true, true, false, false] rfl rfl (by kernel_rfl) (fun _ _ _ h => h) (Or.inl ⟨by rfl, ?_⟩) ?_ ?_
            rotate_left
            ·intro w'
             go_simp
             with_reducible rfl
            rotate_left
            ·simp only [Act.put, List.setIfInBounds_toArray, List.set_cons_zero, List.set_cons_succ, i64_w, i32_w]
             rfl
            refine pure_ (i := 5) (N := some 46) (v := ?_) (a' := ?_) #[true, false, true, true, true, true, false] rfl rfl (by kernel_rfl) (fun _ _ _ h => h) (Or.inl ⟨by rfl, ?_⟩) ?_ ?_
            rotate_left
            ·intro w'
             go_simp
             with_reducible rfl
            rotate_left
            ·simp only [Act.put, List.setIfInBounds_toArray, List.set_cons_zero, List.set_cons_succ, i64_w, i32_w]
             rfl
            refine one_ (i := 1) (N := some 42) #[true, true, true, true, true, true, false] rfl rfl (by kernel_rfl) (by decide) (fun K hK => ?_)
            refine goes_ Tryd.func60 (by kernel_rfl) rfl #[.int .u64 x6_3] (by rfl) rfl rfl (by (try simp only [List.map_toArray, List.map_cons, List.map_nil]); first | done | rfl | (simp only [List.length_drop, List.length_take]; rfl)) ?_
            with_reducible refine (pleachref01_Put.calls x6_3 t288 _ A14.out).mono ?_
            rintro e w20 ⟨rfl, hb⟩
            refine ⟨_, rfl, ?_⟩
            replace HB := M.upS HB hb
            (try clear hb)
            (try clear hb2)
            (try clear hk)
            (try clear hi)
            refine hK.out _ _ trivial (fun hHeld => ?_)
            clear hK K
            refine norm_ (a' := ?_) ?_ ?_
            rotate_left
            ·show Act.put _ (some 42) _ = _
             simp only [Act.put, List.setIfInBounds_toArray, List.set_cons_zero, List.set_cons_succ, i64_w, i32_w]
             rfl
            refine pure_ (i := 6) (N := some 47) (v := ?_) (a' := ?_) #[true, true, true, true, true, true, true] rfl rfl (by kernel_rfl) (fun _ _ _ h => h) (Or.inl ⟨by rfl, ?_⟩) ?_ ?_
            rotate_left
            ·intro w'
             go_simp
             with_reducible rfl
            rotate_left
            ·simp only [Act.put, List.setIfInBounds_toArray, List.set_cons_zero, List.set_cons_succ, i64_w, i32_w]
             rfl
            refine done_ (by kernel_rfl) ?_
            try go_wp2
            go_ret3
            exact ⟨by first | rfl | (simp [errW_none, errW_some] <;> rfl) | (simp only [← hji15]; first | rfl | (simp [errW_none, errW_some] <;> rfl)) | (simp [*, errW_none, errW_some] <;> rfl), M.up HB⟩
           ·rw [if_neg c18] at H
            have c18b0 : (t288.toList == (a0.extract 0 ((ji15) : Int).toNat).toList) = false := beq_eq_false_iff_ne.mpr c18
            have c18b1 : (t288.toList != (a0.extract 0 ((ji15) : Int).toNat).toList) = true := bne_iff_ne.mpr c18
            simp only [Option.some.injEq, Prod.mk.injEq] at H
            obtain ⟨rfl, rfl, rfl⟩ := H
            try go_wp2
            replace HB := Aside0.mk (below_drew1 HB.out)
            refine start_ (n := 7) (S := fun w' => True) (ds := []) #[false, false, false, false, false, false, false] (by kernel_rfl) rfl rfl trivial (fun hHeld => ?_)
            generalize wr.drew = w21 at HB hHeld ⊢
            refine pure_ (i := 0) (N := some 41) (v := ?_) (a' := ?_) #[true, false, false, false, false, false, false] rfl rfl (by kernel_rfl) (fun _ _ _ h => h) (Or.inl ⟨by rfl, ?_⟩) ?_ ?_
            rotate_left
            ·intro w'
             go_simp
             with_reducible rfl
            rotate_left
            ·simp only [Act.put, List.setIfInBounds_toArray, List.set_cons_zero, List.set_cons_succ, i64_w, i32_w]
             rfl
            refine pure_ (i := 2) (N := some 43) (v := ?_) (a' := ?_) #[true, false, true, false, false, false, false] rfl rfl (by kernel_rfl) (fun _ _ _ h => h) (Or.inl ⟨by rfl, ?_⟩) ?_ ?_
            rotate_left
            ·intro w'
             go_simp
             with_reducible rfl
            rotate_left
            ·simp only [Act.put, List.setIfInBounds_toArray, List.set_cons_zero, List.set_cons_succ, i64_w, i32_w]
             rfl
            refine pure_ (i := 3) (N := some 44) (v := ?_) (a' := ?_) #[true, false, true, true, false, false, false] rfl rfl (by kernel_rfl) (fun _ _ _ h => h) (Or.inl ⟨by rfl, ?_⟩) ?_ ?_
            rotate_left
            ·intro w'
             go_simp
             with_reducible rfl
            rotate_left
            ·simp only [Act.put, List.setIfInBounds_toArray, List.set_cons_zero, List.set_cons_succ, i64_w, i32_w]
             rfl
            refine pure_ (i := 4) (N := some 45) (v := ?_) (a' := ?_) #[true, false, true, true, true, false, false] rfl rfl (by kernel_rfl) (fun _ _ _ h => h) (Or.inl ⟨by rfl, ?_⟩) ?_ ?_
            rotate_left
            ·intro w'
             go_simp
             with_reducible rfl
            rotate_left
            ·simp only [Act.put, List.setIfInBounds_toArray, List.set_cons_zero, List.set_cons_succ, i64_w, i32_w]
             rfl
            refine pure_ (i := 5) (N := some 46) (v := ?_) (a' := ?_) #[true, false, true, true, true, true, false] rfl rfl (by kernel_rfl) (fun _ _ _ h => h) (Or.inl ⟨by rfl, ?_⟩) ?_ ?_
            rotate_left
            ·intro w'
             go_simp
             with_reducible rfl
            rotate_left
            ·simp only [Act.put, List.setIfInBounds_toArray, List.set_cons_zero, List.set_cons_succ, i64_w, i32_w]
             rfl
            refine one_ (i := 1) (N := some 42) #[true, true, true, true, true, true, false] rfl rfl (by kernel_rfl) (by decide) (fun K hK => ?_)
            refine goes_ Tryd.func60 (by kernel_rfl) rfl #[.int .u64 x6_3] (by rfl) rfl rfl (by (try simp only [List.map_toArray, List.map_cons, List.map_nil]); first | done | rfl | (simp only [List.length_drop, List.length_take]; rfl)) ?_
            with_reducible refine (pleachref01_Put.calls x6_3 t288 _ A14.out).mono ?_
            rintro e w22 ⟨rfl, hb⟩
            refine ⟨_, rfl, ?_⟩
            replace HB := M.upS HB hb
            (try clear hb)
            (try clear hb2)
            (try clear hk)
            (try clear hi)
            refine hK.out _ _ trivial (fun hHeld => ?_)
            clear hK K
            refine norm_ (a' := ?_) ?_ ?_
            rotate_left
            ·show Act.put _ (some 42) _ = _
             simp only [Act.put, List.setIfInBounds_toArray, List.set_cons_zero, List.set_cons_succ, i64_w, i32_w]
             rfl
            refine pure_ (i := 6) (N := some 47) (v := ?_) (a' := ?_) #[true, true, true, true, true, true, true] rfl rfl (by kernel_rfl) (fun _ _ _ h => h) (Or.inl ⟨by rfl, ?_⟩) ?_ ?_
            rotate_left
            ·intro w'
             go_simp
             with_reducible rfl
            rotate_left
            ·simp only [Act.put, List.setIfInBounds_toArray, List.set_cons_zero, List.set_cons_succ, i64_w, i32_w]
             rfl
            refine done_ (by kernel_rfl) ?_
            try go_wp2
            go_ret3
            exact ⟨by first | rfl | (simp [errW_none, errW_some] <;> rfl) | (simp only [← hji15]; first | rfl | (simp [errW_none, errW_some] <;> rfl)) | (simp [*, errW_none, errW_some] <;> rfl), M.up HB⟩
          ·exact M.nf c17 H
         ·exact M.nf c16 H
def pleachref01_Get.f (a0 : ByteArray) : Option (Int × Int × Bool) := if a0.size ≤ 9223372036854775806 then some (M.vget a0) else none
theorem pleachref01_Get.end_ (s : ByteArray) (hs : s.size ≤ 9223372036854775806) (j d : Nat) : ∀ i, i ≤ s.size → M.lead ((M.bs s).drop i) = d →
    pleachref01_Get_p.l0 (d + 1 + j) s (i : Int) = pleachref01_Get_p.j1 j s ((i + d : Nat) : Int) := by
 induction d with
 | zero =>
  intro i hi hd
  rw [show 0 + 1 + j = j + 1 from by omega]
  simp only [pleachref01_Get_p.l0]
  by_cases hlt : i < s.size
  ·have hl : i < (M.bs s).length := by rw [M.bs_length]; exact hlt
   have hb := M.bt_bs s i hl
   rw [List.drop_eq_getElem_cons hl] at hd
   have hc : ((M.bs s)[i]).toNat < 128 := by
    by_cases h : ((M.bs s)[i]).toNat < 128
    ·exact h
    ·rw [M.lead_high h] at hd; omega
   rw [if_pos (by omega), if_pos (by omega), hb, if_neg (by omega)]; rfl
  ·rw [if_neg (by omega)]; rfl
 | succ d ih =>
  intro i hi hd
  by_cases hlt : i < s.size
  ·have hl : i < (M.bs s).length := by rw [M.bs_length]; exact hlt
   have hb := M.bt_bs s i hl
   rw [List.drop_eq_getElem_cons hl] at hd
   have hc : ¬ ((M.bs s)[i]).toNat < 128 := fun h => by rw [M.lead_low h] at hd; omega
   rw [M.lead_high hc] at hd
   have hw : wrap64 ((i : Int) + 1) = ((i + 1 : Nat) : Int) := by rw [M.wrap64_id (by omega) (by omega)]; omega
   rw [show d + 1 + 1 + j = (d + 1 + j) + 1 from by omega]
   simp only [pleachref01_Get_p.l0]
   rw [if_pos (by omega), if_pos (by omega), hb, if_pos (by omega), hw, ih (i + 1) (by omega) (by omega)]
   congr 2; omega
  ·rw [List.drop_of_length_le (by rw [M.bs_length]; omega)] at hd
   cases hd
theorem pleachref01_Get.fold (s : ByteArray) (e : Nat) (hs : s.size ≤ 9223372036854775806) (he : e < s.size) (j : Nat) : ∀ i, i ≤ e + 1 →
    pleachref01_Get_p.l1 (i + j) s (e : Int) ((M.vval (((M.bs s).take (e + 1)).drop i) % 18446744073709551616 : Nat) : Int) ((i : Int) - 1) =
    pleachref01_Get_p.l1 j s (e : Int) ((M.vval ((M.bs s).take (e + 1)) % 18446744073709551616 : Nat) : Int) (-1) := by
 intro i
 induction i with
 | zero => intro _; simp
 | succ i ih =>
  intro hi
  have hl : i < (M.bs s).length := by rw [M.bs_length]; omega
  have hlt : i < ((M.bs s).take (e + 1)).length := by rw [List.length_take, M.bs_length]; omega
  have hb := M.bt_bs s i hl
  have hc := ((M.bs s)[i]).toNat_lt
  have hd : M.vval (((M.bs s).take (e + 1)).drop i) = ((M.bs s)[i]).toNat % 128 + 128 * M.vval (((M.bs s).take (e + 1)).drop (i + 1)) := by
   rw [List.drop_eq_getElem_cons hlt, M.vval, List.getElem_take]
  rw [show i + 1 + j = (i + j) + 1 from by omega]
  simp only [pleachref01_Get_p.l1]
  have hx : ((i + 1 : Nat) : Int) - 1 = (i : Int) := by omega
  rw [hx, if_pos (by omega), if_pos (by omega), if_pos (by omega), hb]
  have hw : wrap64 ((i : Int) - 1) = (i : Int) - 1 := M.wrap64_id (by omega) (by omega)
  have hv : IntKind.u64.wrap ((IntKind.u64.wrap (((M.vval (((M.bs s).take (e + 1)).drop (i + 1)) % 18446744073709551616 : Nat) : Int) * 128)) + (Int.tmod (IntKind.u64.wrap (((M.bs s)[i]).toNat : Int)) 128)) = ((M.vval (((M.bs s).take (e + 1)).drop i) % 18446744073709551616 : Nat) : Int) := by
   rw [hd, M.u64_id (i := (((M.bs s)[i]).toNat : Int)) (by omega) (by omega), Int.tmod_eq_emod_of_nonneg (by omega), M.u64_wrap, M.u64_wrap]
   omega
  rw [hw, hv]
  exact ih (by omega)
theorem pleachref01_Get.last_ (s : ByteArray) (e v j : Nat) (p : ByteArray) (hp : pleachref01_Put.f (v : Int) = some p) (he : e < s.size) (hs : s.size ≤ 9223372036854775806) :
    pleachref01_Get_p.l1 (j + 1) s (e : Int) (v : Int) (-1) = some (if M.bs p = (M.bs s).take (e + 1) then ((v : Int), ((e + 1 : Nat) : Int), true) else (0, 0, false)) := by
 have hw : wrap64 ((e : Int) + 1) = ((e + 1 : Nat) : Int) := by rw [M.wrap64_id (by omega) (by omega)]; omega
 simp only [pleachref01_Get_p.l1]
 rw [if_neg (by omega), hp, Option.bind_some, hw, if_pos (by omega), if_pos (by omega), M.toList_bs, M.toList_bs, M.bs_take, Int.toNat_natCast]
 by_cases hc : M.bs p = (M.bs s).take (e + 1)
 ·rw [if_pos hc, if_pos hc]
 ·rw [if_neg hc, if_neg hc]
theorem pleachref01_Get.last (s : ByteArray) (e v j : Nat) (he : e < s.size) (hs : s.size ≤ 9223372036854775806) (hv : v < 18446744073709551616) :
    pleachref01_Get_p.l1 (j + 1) s (e : Int) (v : Int) (-1) = some (if M.vb v = (M.bs s).take (e + 1) then ((v : Int), ((e + 1 : Nat) : Int), true) else (0, 0, false)) := by
 have hp : pleachref01_Put.f (v : Int) = some (M.sb (M.vb v)) := by unfold pleachref01_Put.f; rw [if_pos ⟨by omega, by omega⟩, Int.toNat_natCast]
 rw [pleachref01_Get.last_ s e v j _ hp he hs, M.bs_sb]
theorem pleachref01_Get.ev (a0 : ByteArray) (r : Int × Int × Bool) (h : pleachref01_Get.f a0 = some r) : ∃ k, pleachref01_Get_p.f k a0 = some r := by
 unfold pleachref01_Get.f at h
 split at h
 case isFalse => cases h
 rename_i hs
 obtain rfl := Option.some.inj h
 obtain ⟨e, he⟩ : ∃ e, e = M.lead (M.bs a0) := ⟨_, rfl⟩
 have hle := M.lead_le (M.bs a0)
 have hl := M.bs_length a0
 rw [← M.vget_ref a0 e he]
 refine ⟨e + 1 + (((e + 1) + 1) + 2), ?_⟩
 unfold pleachref01_Get_p.f
 have h1 := pleachref01_Get.end_ a0 hs (((e + 1) + 1) + 2) e 0 (Nat.zero_le _) (by simp [he])
 rw [show ((0 : Nat) : Int) = 0 from rfl] at h1
 rw [h1, Nat.zero_add]
 have hj : pleachref01_Get_p.j1 (((e + 1) + 1) + 2) a0 (e : Int) = pleachref01_Get_p.j2 (((e + 1) + 1) + 1) a0 (e : Int) (decide (a0.size ≤ e ∨ 9 < e)) := by
  rw [show ((e + 1) + 1) + 2 = (((e + 1) + 1) + 1) + 1 from rfl]
  simp only [pleachref01_Get_p.j1]
  split
  ·rw [decide_eq_true (by omega)]
  ·congr 1
   apply decide_eq_decide.2; omega
 rw [hj]
 rw [show ((e + 1) + 1) + 1 = ((e + 1) + 1) + 1 from rfl]
 simp only [pleachref01_Get_p.j2]
 by_cases hb : a0.size ≤ e ∨ 9 < e
 ·rw [if_pos (by simpa using hb), if_pos hb]
 ·rw [if_neg (by simpa using hb), if_neg hb]
  have h2 := pleachref01_Get.fold a0 e hs (by omega) 1 (e + 1) (Nat.le_refl _)
  have hv0 : M.vval [] % 18446744073709551616 = 0 := by rw [M.vval]
  rw [List.drop_of_length_le (by rw [List.length_take]; omega), hv0, show ((0 : Nat) : Int) = 0 from rfl] at h2
  have h3 : ((e + 1 : Nat) : Int) - 1 = (e : Int) := by omega
  rw [h3] at h2
  refine Eq.trans h2 ?_
  have hN : M.vval ((M.bs a0).take (e + 1)) % 18446744073709551616 < 18446744073709551616 := Nat.mod_lt _ (by decide)
  generalize M.vval ((M.bs a0).take (e + 1)) % 18446744073709551616 = v at hN ⊢
  exact pleachref01_Get.last a0 e v 0 (by omega) hs hN
theorem pleachref01_Get.calls (a0 : ByteArray) (r1 : Int) (r2 : Int) (r3 : Bool) (w : World) (h : pleachref01_Get.f a0 = some (r1, r2, r3)) :
    Calls Tryd.prog 58 #[.string a0] w fun e w' => e = .returned (.tuple #[.int .u64 r1, .int .i64 r2, .bool r3]) ∧ Below w.heap.size w w' := by
 obtain ⟨k, hk⟩ := pleachref01_Get.ev _ _ h
 exact pleachref01_Get_p.calls (k := k) (w := w) (h := hk)
def pleachref04_Num_p.f (a0_0 : ByteArray) (a0_1 : Int) (a0_2 : Int) (a1 : Int) : Option (ByteArray × Int × Int × Int) := if a0_2 = 0 then (if 0 ≤ a0_1 then (if a0_1 ≤ (a0_0.size : Int) then ((pleachref01_Get.f (a0_0.extract (a0_1 : Int).toNat a0_0.size)).bind fun bt291 => (if bt291.2.2 = true then (if a1 < 0 then (some (a0_0, a0_1, 5, 0)) else (if bt291.1 > (IntKind.u64.wrap (a1)) then (some (a0_0, a0_1, 5, 0)) else (some (a0_0, wrap64 (a0_1 + bt291.2.1), a0_2, wrap64 (bt291.1))))) else (some (a0_0, a0_1, 3, 0)))) else (none)) else (none)) else (some (a0_0, a0_1, a0_2, 0))
set_option maxHeartbeats 8000000 in
set_option maxRecDepth 100000 in
theorem pleachref04_Num_p.calls (a0_0 : ByteArray) (a0_1 : Int) (a0_2 : Int) (a1 : Int) (r1 : ByteArray) (r2 : Int) (r3 : Int) (r4 : Int) (w : World) (h : pleachref04_Num_p.f a0_0 a0_1 a0_2 a1 = some (r1, r2, r3, r4)) :
    Calls Tryd.prog 37 #[.agg #[.string a0_0, .int .i64 a0_1, .int .i64 a0_2], .int .i64 a1] w fun e w' => e = .returned (.tuple #[.agg #[.string r1, .int .i64 r2, .int .i64 r3], .int .i64 r4]) ∧ Below w.heap.size w w' := by
 have hu70 := Tryd.underlying70
 have HB := Aside0.mk (Below.refl w.heap.size w)
 have H : (if a0_2 = 0 then (if 0 ≤ a0_1 then (if a0_1 ≤ (a0_0.size : Int) then ((pleachref01_Get.f (a0_0.extract (a0_1 : Int).toNat a0_0.size)).bind fun bt291 => (if bt291.2.2 = true then (if a1 < 0 then (some (a0_0, a0_1, 5, 0)) else (if bt291.1 > (IntKind.u64.wrap (a1)) then (some (a0_0, a0_1, 5, 0)) else (some (a0_0, wrap64 (a0_1 + bt291.2.1), a0_2, wrap64 (bt291.1))))) else (some (a0_0, a0_1, 3, 0)))) else (none)) else (none)) else (some (a0_0, a0_1, a0_2, 0))) = some (r1, r2, r3, r4) := h
 clear h
 by_cases c3 : a0_2 = 0
 ·rw [if_pos c3] at H
  have c3b0 : (a0_2 == 0) = true := beq_iff_eq.mpr c3
  have c3b1 : (a0_2 != 0) = false := bne_eq_false_iff_eq.mpr c3
  clear c3
  by_cases c4 : 0 ≤ a0_1
  ·rw [if_pos c4] at H
   have c4b0 := eq_true c4
   have c4b1 := decide_eq_true c4
   clear c4
   by_cases c5 : a0_1 ≤ (a0_0.size : Int)
   ·rw [if_pos c5] at H
    have c5b0 := eq_true c5
    have c5b1 := decide_eq_true c5
    clear c5
    replace H := Option.bind_eq_some_iff.mp H
    obtain ⟨⟨t291, t292, t293⟩, A60, H⟩ := H
    replace H : (if t293 = true then (if a1 < 0 then (some (a0_0, a0_1, 5, 0)) else (if t291 > (IntKind.u64.wrap (a1)) then (some (a0_0, a0_1, 5, 0)) else (some (a0_0, wrap64 (a0_1 + t292), a0_2, wrap64 (t291))))) else (some (a0_0, a0_1, 3, 0))) = some (r1, r2, r3, r4) := H
    have A6 := Aside0.mk A60
    clear A60
    by_cases c7 : t293 = true
    ·subst c7
     have H1 : (if a1 < 0 then (some (a0_0, a0_1, 5, 0)) else (if t291 > (IntKind.u64.wrap (a1)) then (some (a0_0, a0_1, 5, 0)) else (some (a0_0, wrap64 (a0_1 + t292), a0_2, wrap64 (t291))))) = some (r1, r2, r3, r4) := by rw [if_pos rfl] at H; exact H
     clear H
     have H := H1
     clear H1
     by_cases c8 : a1 < 0
     ·rw [if_pos c8] at H
      have c8b0 := decide_eq_true c8
      clear c8
      simp only [Option.some.injEq, Prod.mk.injEq] at H
      obtain ⟨rfl, rfl, rfl, rfl⟩ := H
      go_enter Tryd.func37, Tryd.ntmps37
      go_wp2_with (first | ((with_reducible refine gate_dst (N := 2) rfl ?_); refine M.bx 2 70 (#[.string a0_0, .int .i64 a0_1, .int .i64 a0_2]) ?_; intro zaa hg w9 hbox hb; have zab := Aside0.mk (hbox); have zac := M.upG HB hg; have zad := M.upG HB hg; replace HB := M.upS HB hb; clear hb hbox hg) | ((with_reducible refine gate_dst (N := 4) rfl ?_); refine M.bx 4 70 (#[.string (⟨#[]⟩ : ByteArray), .int .i64 0, .int .i64 0]) ?_; intro zae hg w10 hbox hb; have zaf := Aside0.mk (hbox); have zag := M.upG HB hg; have zah := M.upG HB hg; replace HB := M.upS HB hb; have zai := M.bkL zab hg; have zaj := M.bkG zab hg; replace zab := M.bkB zab hb; clear hb hbox hg; have zak := zai.out; have zal := zaj.out; obtain ⟨zam, zan, zao⟩ := M.bc3 (w := w10) (a := .string a0_0) (b := .int .i64 a0_1) (c := .int .i64 a0_2) zab.out; obtain ⟨zap, zaq, zar⟩ := M.bf3 zab) | ((with_reducible refine gate_callee (f := 58) rfl ?_); refine M.goes (some 19) Tryd.func58 #[.string (a0_0.extract (a0_1 : Int).toNat a0_0.size)] rfl ?_; (with_reducible refine (pleachref01_Get.calls (a0_0.extract (a0_1 : Int).toNat a0_0.size) t291 t292 true _ A6.out).mono ?_); rintro e w13 ⟨rfl, hb⟩; refine ⟨_, rfl, ?_⟩; replace zab := M.bkB zab hb; replace zaf := M.bkB zaf hb; replace HB := M.upS HB hb; (try clear hb); obtain ⟨zas, zat, zau⟩ := M.bc3 (w := w13) (a := .string a0_0) (b := .int .i64 a0_1) (c := .int .i64 a0_2) zab.out; obtain ⟨zav, zaw, zax⟩ := M.bf3 zab; obtain ⟨zay, zaz, zaA⟩ := M.bc3 (w := w13) (a := .string (⟨#[]⟩ : ByteArray)) (b := .int .i64 0) (c := .int .i64 0) zaf.out; obtain ⟨zaB, zaC, zaD⟩ := M.bf3 zaf))
      refine bodyPost_ret (results_ct rfl _ _ zae 70 #[.string a0_0, .int .i64 a0_1, .int .i64 5] (0, 0) _ rfl (by refine M.fp (cs := #[.string a0_0, .int .i64 a0_1, .int .i64 0]) ?_ 2; refine M.fp (cs := #[.string a0_0, .int .i64 0, .int .i64 0]) ?_ 1; refine M.fp (cs := #[.string (⟨#[]⟩ : ByteArray), .int .i64 0, .int .i64 0]) ?_ 0; refine M.fr ?_ zaj; exact M.bk zaf) Tryd.underlying70 rfl (by kernel_rfl)) rfl ?_
      exact M.fin (M.up HB)
     ·rw [if_neg c8] at H
      have c8b0 := decide_eq_false c8
      clear c8
      by_cases c16 : t291 > (IntKind.u64.wrap (a1))
      ·rw [if_pos c16] at H
       have c16b0 := decide_eq_true c16
       clear c16
       simp only [Option.some.injEq, Prod.mk.injEq] at H
       obtain ⟨rfl, rfl, rfl, rfl⟩ := H
       go_enter Tryd.func37, Tryd.ntmps37
       go_wp2_with (first | ((with_reducible refine gate_dst (N := 2) rfl ?_); refine M.bx 2 70 (#[.string a0_0, .int .i64 a0_1, .int .i64 a0_2]) ?_; intro zaa hg w17 hbox hb; have zab := Aside0.mk (hbox); have zac := M.upG HB hg; have zad := M.upG HB hg; replace HB := M.upS HB hb; clear hb hbox hg) | ((with_reducible refine gate_dst (N := 4) rfl ?_); refine M.bx 4 70 (#[.string (⟨#[]⟩ : ByteArray), .int .i64 0, .int .i64 0]) ?_; intro zae hg w18 hbox hb; have zaf := Aside0.mk (hbox); have zag := M.upG HB hg; have zah := M.upG HB hg; replace HB := M.upS HB hb; have zai := M.bkL zab hg; have zaj := M.bkG zab hg; replace zab := M.bkB zab hb; clear hb hbox hg; have zaE := zai.out; have zaF := zaj.out; obtain ⟨zaG, zaH, zaI⟩ := M.bc3 (w := w18) (a := .string a0_0) (b := .int .i64 a0_1) (c := .int .i64 a0_2) zab.out; obtain ⟨zaJ, zaK, zaL⟩ := M.bf3 zab) | ((with_reducible refine gate_callee (f := 58) rfl ?_); refine M.goes (some 19) Tryd.func58 #[.string (a0_0.extract (a0_1 : Int).toNat a0_0.size)] rfl ?_; (with_reducible refine (pleachref01_Get.calls (a0_0.extract (a0_1 : Int).toNat a0_0.size) t291 t292 true _ A6.out).mono ?_); rintro e w21 ⟨rfl, hb⟩; refine ⟨_, rfl, ?_⟩; replace zab := M.bkB zab hb; replace zaf := M.bkB zaf hb; replace HB := M.upS HB hb; (try clear hb); obtain ⟨zaM, zaN, zaO⟩ := M.bc3 (w := w21) (a := .string a0_0) (b := .int .i64 a0_1) (c := .int .i64 a0_2) zab.out; obtain ⟨zaP, zaQ, zaR⟩ := M.bf3 zab; obtain ⟨zaS, zaT, zaU⟩ := M.bc3 (w := w21) (a := .string (⟨#[]⟩ : ByteArray)) (b := .int .i64 0) (c := .int .i64 0) zaf.out; obtain ⟨zaV, zaW, zaX⟩ := M.bf3 zaf))
       refine bodyPost_ret (results_ct rfl _ _ zae 70 #[.string a0_0, .int .i64 a0_1, .int .i64 5] (0, 0) _ rfl (by refine M.fp (cs := #[.string a0_0, .int .i64 a0_1, .int .i64 0]) ?_ 2; refine M.fp (cs := #[.string a0_0, .int .i64 0, .int .i64 0]) ?_ 1; refine M.fp (cs := #[.string (⟨#[]⟩ : ByteArray), .int .i64 0, .int .i64 0]) ?_ 0; refine M.fr ?_ zaj; exact M.bk zaf) Tryd.underlying70 rfl (by kernel_rfl)) rfl ?_
       exact M.fin (M.up HB)
      ·rw [if_neg c16] at H
       have c16b0 := decide_eq_false c16
       clear c16
       simp only [Option.some.injEq, Prod.mk.injEq] at H
       obtain ⟨rfl, rfl, rfl, rfl⟩ := H
       go_enter Tryd.func37, Tryd.ntmps37
       go_wp2_with (first | ((with_reducible refine gate_dst (N := 2) rfl ?_); refine M.bx 2 70 (#[.string a0_0, .int .i64 a0_1, .int .i64 a0_2]) ?_; intro zaa hg w24 hbox hb; have zab := Aside0.mk (hbox); have zac := M.upG HB hg; have zad := M.upG HB hg; replace HB := M.upS HB hb; clear hb hbox hg) | ((with_reducible refine gate_dst (N := 4) rfl ?_); refine M.bx 4 70 (#[.string (⟨#[]⟩ : ByteArray), .int .i64 0, .int .i64 0]) ?_; intro zae hg w25 hbox hb; have zaf := Aside0.mk (hbox); have zag := M.upG HB hg; have zah := M.upG HB hg; replace HB := M.upS HB hb; have zai := M.bkL zab hg; have zaj := M.bkG zab hg; replace zab := M.bkB zab hb; clear hb hbox hg; have zaY := zai.out; have zaZ := zaj.out; obtain ⟨za0, za1, za2⟩ := M.bc3 (w := w25) (a := .string a0_0) (b := .int .i64 a0_1) (c := .int .i64 a0_2) zab.out; obtain ⟨za3, za4, za5⟩ := M.bf3 zab) | ((with_reducible refine gate_callee (f := 58) rfl ?_); refine M.goes (some 19) Tryd.func58 #[.string (a0_0.extract (a0_1 : Int).toNat a0_0.size)] rfl ?_; (with_reducible refine (pleachref01_Get.calls (a0_0.extract (a0_1 : Int).toNat a0_0.size) t291 t292 true _ A6.out).mono ?_); rintro e w28 ⟨rfl, hb⟩; refine ⟨_, rfl, ?_⟩; replace zab := M.bkB zab hb; replace zaf := M.bkB zaf hb; replace HB := M.upS HB hb; (try clear hb); obtain ⟨za6, za7, za8⟩ := M.bc3 (w := w28) (a := .string a0_0) (b := .int .i64 a0_1) (c := .int .i64 a0_2) zab.out; obtain ⟨za9, zba, zbb⟩ := M.bf3 zab; obtain ⟨zbc, zbd, zbe⟩ := M.bc3 (w := w28) (a := .string (⟨#[]⟩ : ByteArray)) (b := .int .i64 0) (c := .int .i64 0) zaf.out; obtain ⟨zbf, zbg, zbh⟩ := M.bf3 zaf))
       refine bodyPost_ret (results_ct rfl _ _ zae 70 #[.string a0_0, .int .i64 (wrap64 (a0_1 + t292)), .int .i64 a0_2] (0, 0) _ rfl (by refine M.fp (cs := #[.string a0_0, .int .i64 (wrap64 (a0_1 + t292)), .int .i64 0]) ?_ 2; refine M.fp (cs := #[.string a0_0, .int .i64 0, .int .i64 0]) ?_ 1; refine M.fp (cs := #[.string (⟨#[]⟩ : ByteArray), .int .i64 0, .int .i64 0]) ?_ 0; refine M.fr ?_ zaj; exact M.bk zaf) Tryd.underlying70 rfl (by kernel_rfl)) rfl ?_
       exact M.fin (M.up HB)
    ·replace c7 := Bool.eq_false_iff.mpr c7
     subst c7
     have H1 : (some (a0_0, a0_1, 3, 0)) = some (r1, r2, r3, r4) := by rw [if_neg (show ¬ (false = true) by decide)] at H; exact H
     clear H
     have H := H1
     clear H1
     simp only [Option.some.injEq, Prod.mk.injEq] at H
     obtain ⟨rfl, rfl, rfl, rfl⟩ := H
     go_enter Tryd.func37, Tryd.ntmps37
     go_wp2_with (first | ((with_reducible refine gate_dst (N := 2) rfl ?_); refine M.bx 2 70 (#[.string a0_0, .int .i64 a0_1, .int .i64 a0_2]) ?_; intro zaa hg w31 hbox hb; have zab := Aside0.mk (hbox); have zac := M.upG HB hg; have zad := M.upG HB hg; replace HB := M.upS HB hb; clear hb hbox hg) | ((with_reducible refine gate_dst (N := 4) rfl ?_); refine M.bx 4 70 (#[.string (⟨#[]⟩ : ByteArray), .int .i64 0, .int .i64 0]) ?_; intro zae hg w32 hbox hb; have zaf := Aside0.mk (hbox); have zag := M.upG HB hg; have zah := M.upG HB hg; replace HB := M.upS HB hb; have zai := M.bkL zab hg; have zaj := M.bkG zab hg; replace zab := M.bkB zab hb; clear hb hbox hg; have zbi := zai.out; have zbj := zaj.out; obtain ⟨zbk, zbl, zbm⟩ := M.bc3 (w := w32) (a := .string a0_0) (b := .int .i64 a0_1) (c := .int .i64 a0_2) zab.out; obtain ⟨zbn, zbo, zbp⟩ := M.bf3 zab) | ((with_reducible refine gate_callee (f := 58) rfl ?_); refine M.goes (some 19) Tryd.func58 #[.string (a0_0.extract (a0_1 : Int).toNat a0_0.size)] rfl ?_; (with_reducible refine (pleachref01_Get.calls (a0_0.extract (a0_1 : Int).toNat a0_0.size) t291 t292 false _ A6.out).mono ?_); rintro e w35 ⟨rfl, hb⟩; refine ⟨_, rfl, ?_⟩; replace zab := M.bkB zab hb; replace zaf := M.bkB zaf hb; replace HB := M.upS HB hb; (try clear hb); obtain ⟨zbq, zbr, zbs⟩ := M.bc3 (w := w35) (a := .string a0_0) (b := .int .i64 a0_1) (c := .int .i64 a0_2) zab.out; obtain ⟨zbt, zbu, zbv⟩ := M.bf3 zab; obtain ⟨zbw, zbx, zby⟩ := M.bc3 (w := w35) (a := .string (⟨#[]⟩ : ByteArray)) (b := .int .i64 0) (c := .int .i64 0) zaf.out; obtain ⟨zbz, zbA, zbB⟩ := M.bf3 zaf))
     refine bodyPost_ret (results_ct rfl _ _ zae 70 #[.string a0_0, .int .i64 a0_1, .int .i64 3] (0, 0) _ rfl (by refine M.fp (cs := #[.string a0_0, .int .i64 a0_1, .int .i64 0]) ?_ 2; refine M.fp (cs := #[.string a0_0, .int .i64 0, .int .i64 0]) ?_ 1; refine M.fp (cs := #[.string (⟨#[]⟩ : ByteArray), .int .i64 0, .int .i64 0]) ?_ 0; refine M.fr ?_ zaj; exact M.bk zaf) Tryd.underlying70 rfl (by kernel_rfl)) rfl ?_
     exact M.fin (M.up HB)
   ·exact M.nf c5 H
  ·exact M.nf c4 H
 ·rw [if_neg c3] at H
  have c3b0 : (a0_2 == 0) = false := beq_eq_false_iff_ne.mpr c3
  have c3b1 : (a0_2 != 0) = true := bne_iff_ne.mpr c3
  simp only [Option.some.injEq, Prod.mk.injEq] at H
  obtain ⟨rfl, rfl, rfl, rfl⟩ := H
  go_enter Tryd.func37, Tryd.ntmps37
  go_wp2_with (first | ((with_reducible refine gate_dst (N := 2) rfl ?_); refine M.bx 2 70 (#[.string a0_0, .int .i64 a0_1, .int .i64 a0_2]) ?_; intro zaa hg w38 hbox hb; have zab := Aside0.mk (hbox); have zac := M.upG HB hg; have zad := M.upG HB hg; replace HB := M.upS HB hb; clear hb hbox hg) | ((with_reducible refine gate_dst (N := 4) rfl ?_); refine M.bx 4 70 (#[.string (⟨#[]⟩ : ByteArray), .int .i64 0, .int .i64 0]) ?_; intro zae hg w39 hbox hb; have zaf := Aside0.mk (hbox); have zag := M.upG HB hg; have zah := M.upG HB hg; replace HB := M.upS HB hb; have zai := M.bkL zab hg; have zaj := M.bkG zab hg; replace zab := M.bkB zab hb; clear hb hbox hg; have zbC := zai.out; have zbD := zaj.out; obtain ⟨zbE, zbF, zbG⟩ := M.bc3 (w := w39) (a := .string a0_0) (b := .int .i64 a0_1) (c := .int .i64 a0_2) zab.out; obtain ⟨zbH, zbI, zbJ⟩ := M.bf3 zab; obtain ⟨zbK, zbL, zbM⟩ := M.bc3 (w := w39) (a := .string (⟨#[]⟩ : ByteArray)) (b := .int .i64 0) (c := .int .i64 0) zaf.out; obtain ⟨zbN, zbO, zbP⟩ := M.bf3 zaf))
  refine bodyPost_ret (results_ct rfl _ _ zae 70 #[.string a0_0, .int .i64 a0_1, .int .i64 a0_2] (0, 0) _ rfl (by refine M.fp (cs := #[.string a0_0, .int .i64 a0_1, .int .i64 0]) ?_ 2; refine M.fp (cs := #[.string a0_0, .int .i64 0, .int .i64 0]) ?_ 1; refine M.fp (cs := #[.string (⟨#[]⟩ : ByteArray), .int .i64 0, .int .i64 0]) ?_ 0; exact M.bk zaf) Tryd.underlying70 rfl (by kernel_rfl)) rfl ?_
  exact M.fin (M.up HB)
def pleachref04_Num.f (a0_0 : ByteArray) (a0_1 : Int) (a0_2 : Int) (a1 : Int) : Option (ByteArray × Int × Int × Int) :=
  if M.sok a0_0 a0_1 ∧ a1 ≤ 9223372036854775807 ∧ a0_0.size ≤ 9223372036854775806 then some (a0_0, (M.xnum a0_0 a0_1 a0_2 a1).2.1, (M.xnum a0_0 a0_1 a0_2 a1).2.2, (M.xnum a0_0 a0_1 a0_2 a1).1) else none
theorem pleachref04_Num.ev (s : ByteArray) (p er n : Int) (r : ByteArray × Int × Int × Int) (h : pleachref04_Num.f s p er n = some r) : pleachref04_Num_p.f s p er n = some r := by
 unfold pleachref04_Num.f at h
 split at h
 case isFalse => cases h
 case isTrue hh =>
  obtain ⟨hs, hn, hz⟩ := hh
  have hv := M.vget_at s hs
  have hsz := M.size_extract_to s hs
  have hg : pleachref01_Get.f (s.extract p.toNat s.size) = some (M.vget (s.extract p.toNat s.size)) := by
   obtain ⟨h0, h1, h2⟩ := hs
   unfold pleachref01_Get.f; rw [if_pos (by omega)]
  unfold pleachref04_Num_p.f
  rw [← h]
  unfold M.xnum
  by_cases he : er = 0
  ·subst he
   obtain ⟨h0, h1, h2⟩ := hs
   rw [if_pos rfl, if_pos rfl, if_pos h0, if_pos h1, hg, Option.bind_some]
   unfold M.snum
   generalize M.vget (s.extract p.toNat s.size) = q at hv ⊢
   obtain ⟨m, k, b⟩ := q
   cases b with
   | false => rfl
   | true =>
    simp only [if_true] at hv ⊢
    by_cases c0 : n < 0
    ·rw [if_pos c0, if_pos (.inl c0)]
    ·rw [if_neg c0, M.u64_id (i := n) (by omega) (by omega)]
     by_cases c1 : m > n
     ·rw [if_pos c1, if_pos (.inr c1)]
     ·have c2 : ¬ (n < 0 ∨ n < m) := by omega
      rw [if_neg c1, if_neg c2, M.wrap64_id (by omega) (by omega), M.wrap64_id (by omega) (by omega)]
  ·simp only [if_neg he]
theorem pleachref04_Num.calls (a0_0 : ByteArray) (a0_1 : Int) (a0_2 : Int) (a1 : Int) (r1 : ByteArray) (r2 : Int) (r3 : Int) (r4 : Int) (w : World) (h : pleachref04_Num.f a0_0 a0_1 a0_2 a1 = some (r1, r2, r3, r4)) :
    Calls Tryd.prog 37 #[.agg #[.string a0_0, .int .i64 a0_1, .int .i64 a0_2], .int .i64 a1] w fun e w' => e = .returned (.tuple #[.agg #[.string r1, .int .i64 r2, .int .i64 r3], .int .i64 r4]) ∧ Below w.heap.size w w' := by
 exact pleachref04_Num_p.calls (w := w) (h := pleachref04_Num.ev _ _ _ _ _ h)
def pleachref04_Fix_p.f (a0_0 : ByteArray) (a0_1 : Int) (a0_2 : Int) (a1 : Int) : Option (ByteArray × Int × Int × ByteArray) := (pleachref04_fix.f a0_0 a0_1 a0_2 a1).bind fun bt296 => (some (bt296.1, bt296.2.1, bt296.2.2.1, bt296.2.2.2))
set_option maxHeartbeats 8000000 in
set_option maxRecDepth 100000 in
theorem pleachref04_Fix_p.calls (a0_0 : ByteArray) (a0_1 : Int) (a0_2 : Int) (a1 : Int) (r1 : ByteArray) (r2 : Int) (r3 : Int) (r4 : ByteArray) (w : World) (h : pleachref04_Fix_p.f a0_0 a0_1 a0_2 a1 = some (r1, r2, r3, r4)) :
    Calls Tryd.prog 38 #[.agg #[.string a0_0, .int .i64 a0_1, .int .i64 a0_2], .int .i64 a1] w fun e w' => e = .returned (.tuple #[.agg #[.string r1, .int .i64 r2, .int .i64 r3], .string r4]) ∧ Below w.heap.size w w' := by
 have hu70 := Tryd.underlying70
 have HB := Aside0.mk (Below.refl w.heap.size w)
 have H : ((pleachref04_fix.f a0_0 a0_1 a0_2 a1).bind fun bt296 => (some (bt296.1, bt296.2.1, bt296.2.2.1, bt296.2.2.2))) = some (r1, r2, r3, r4) := h
 clear h
 replace H := Option.bind_eq_some_iff.mp H
 obtain ⟨⟨t296, t297, t298, t299⟩, A30, H⟩ := H
 replace H : (some (t296, t297, t298, t299)) = some (r1, r2, r3, r4) := H
 have A3 := Aside0.mk A30
 clear A30
 simp only [Option.some.injEq, Prod.mk.injEq] at H
 obtain ⟨rfl, rfl, rfl, rfl⟩ := H
 go_enter Tryd.func38, Tryd.ntmps38
 go_wp2_with (first | ((with_reducible refine gate_dst (N := 2) rfl ?_); refine M.bx 2 70 (#[.string a0_0, .int .i64 a0_1, .int .i64 a0_2]) ?_; intro zbQ hg w4 hbox hb; have zbR := Aside0.mk (hbox); have zbS := M.upG HB hg; have zbT := M.upG HB hg; replace HB := M.upS HB hb; clear hb hbox hg) | ((with_reducible refine gate_dst (N := 4) rfl ?_); refine M.bx 4 70 (#[.string (⟨#[]⟩ : ByteArray), .int .i64 0, .int .i64 0]) ?_; intro zbU hg w5 hbox hb; have zbV := Aside0.mk (hbox); have zbW := M.upG HB hg; have zbX := M.upG HB hg; replace HB := M.upS HB hb; have zbY := M.bkL zbR hg; have zbZ := M.bkG zbR hg; replace zbR := M.bkB zbR hb; clear hb hbox hg; have zb0 := zbY.out; have zb1 := zbZ.out; obtain ⟨zb2, zb3, zb4⟩ := M.bc3 (w := w5) (a := .string a0_0) (b := .int .i64 a0_1) (c := .int .i64 a0_2) zbR.out; obtain ⟨zb5, zb6, zb7⟩ := M.bf3 zbR) | ((with_reducible refine gate_callee (f := 57) rfl ?_); refine M.goes (some 8) Tryd.func57 #[.agg #[.string a0_0, .int .i64 a0_1, .int .i64 a0_2], .int .i64 a1] rfl ?_; (with_reducible refine (pleachref04_fix.calls a0_0 a0_1 a0_2 a1 t296 t297 t298 t299 _ A3.out).mono ?_); rintro e w8 ⟨rfl, hb⟩; refine ⟨_, rfl, ?_⟩; replace zbR := M.bkB zbR hb; replace zbV := M.bkB zbV hb; replace HB := M.upS HB hb; (try clear hb); obtain ⟨zb8, zb9, zca⟩ := M.bc3 (w := w8) (a := .string (⟨#[]⟩ : ByteArray)) (b := .int .i64 0) (c := .int .i64 0) zbV.out; obtain ⟨zcb, zcc, zcd⟩ := M.bf3 zbV))
 refine bodyPost_ret (results_ct rfl _ _ zbU 70 #[.string t296, .int .i64 t297, .int .i64 t298] (0, 0) _ rfl (by refine M.fp (cs := #[.string t296, .int .i64 t297, .int .i64 0]) ?_ 2; refine M.fp (cs := #[.string t296, .int .i64 0, .int .i64 0]) ?_ 1; refine M.fp (cs := #[.string (⟨#[]⟩ : ByteArray), .int .i64 0, .int .i64 0]) ?_ 0; exact M.bk zbV) Tryd.underlying70 rfl (by kernel_rfl)) rfl ?_
 exact M.fin (M.up HB)
def pleachref04_Fix.f (a0_0 : ByteArray) (a0_1 : Int) (a0_2 : Int) (a1 : Int) : Option (ByteArray × Int × Int × ByteArray) := pleachref04_fix.f a0_0 a0_1 a0_2 a1
theorem pleachref04_Fix.ev (s : ByteArray) (p er n : Int) (r : ByteArray × Int × Int × ByteArray) (h : pleachref04_Fix.f s p er n = some r) : pleachref04_Fix_p.f s p er n = some r := by
 unfold pleachref04_Fix.f at h
 unfold pleachref04_Fix_p.f
 rw [h]; rfl
theorem pleachref04_Fix.calls (a0_0 : ByteArray) (a0_1 : Int) (a0_2 : Int) (a1 : Int) (r1 : ByteArray) (r2 : Int) (r3 : Int) (r4 : ByteArray) (w : World) (h : pleachref04_Fix.f a0_0 a0_1 a0_2 a1 = some (r1, r2, r3, r4)) :
    Calls Tryd.prog 38 #[.agg #[.string a0_0, .int .i64 a0_1, .int .i64 a0_2], .int .i64 a1] w fun e w' => e = .returned (.tuple #[.agg #[.string r1, .int .i64 r2, .int .i64 r3], .string r4]) ∧ Below w.heap.size w w' := by
 exact pleachref04_Fix_p.calls (w := w) (h := pleachref04_Fix.ev _ _ _ _ _ h)
def pleachref04_Text_p.f (a0_0 : ByteArray) (a0_1 : Int) (a0_2 : Int) (a1 : Int) : Option (ByteArray × Int × Int × ByteArray) := (pleachref04_Num.f a0_0 a0_1 a0_2 a1).bind fun bt302 => (if bt302.2.2.1 = 0 then ((pleachref04_fix.f bt302.1 bt302.2.1 bt302.2.2.1 bt302.2.2.2).bind fun bt306 => (some (bt306.1, bt306.2.1, bt306.2.2.1, bt306.2.2.2))) else (some (bt302.1, bt302.2.1, bt302.2.2.1, (⟨#[]⟩ : ByteArray))))
set_option maxHeartbeats 8000000 in
set_option maxRecDepth 100000 in
theorem pleachref04_Text_p.calls (a0_0 : ByteArray) (a0_1 : Int) (a0_2 : Int) (a1 : Int) (r1 : ByteArray) (r2 : Int) (r3 : Int) (r4 : ByteArray) (w : World) (h : pleachref04_Text_p.f a0_0 a0_1 a0_2 a1 = some (r1, r2, r3, r4)) :
    Calls Tryd.prog 39 #[.agg #[.string a0_0, .int .i64 a0_1, .int .i64 a0_2], .int .i64 a1] w fun e w' => e = .returned (.tuple #[.agg #[.string r1, .int .i64 r2, .int .i64 r3], .string r4]) ∧ Below w.heap.size w w' := by
 have hu70 := Tryd.underlying70
 have HB := Aside0.mk (Below.refl w.heap.size w)
 have H : ((pleachref04_Num.f a0_0 a0_1 a0_2 a1).bind fun bt302 => (if bt302.2.2.1 = 0 then ((pleachref04_fix.f bt302.1 bt302.2.1 bt302.2.2.1 bt302.2.2.2).bind fun bt306 => (some (bt306.1, bt306.2.1, bt306.2.2.1, bt306.2.2.2))) else (some (bt302.1, bt302.2.1, bt302.2.2.1, (⟨#[]⟩ : ByteArray))))) = some (r1, r2, r3, r4) := h
 clear h
 replace H := Option.bind_eq_some_iff.mp H
 obtain ⟨⟨t302, t303, t304, t305⟩, A30, H⟩ := H
 replace H : (if t304 = 0 then ((pleachref04_fix.f t302 t303 t304 t305).bind fun bt306 => (some (bt306.1, bt306.2.1, bt306.2.2.1, bt306.2.2.2))) else (some (t302, t303, t304, (⟨#[]⟩ : ByteArray)))) = some (r1, r2, r3, r4) := H
 have A3 := Aside0.mk A30
 clear A30
 by_cases c4 : t304 = 0
 ·rw [if_pos c4] at H
  have c4b0 : (t304 == 0) = true := beq_iff_eq.mpr c4
  have c4b1 : (t304 != 0) = false := bne_eq_false_iff_eq.mpr c4
  clear c4
  replace H := Option.bind_eq_some_iff.mp H
  obtain ⟨⟨t306, t307, t308, t309⟩, A50, H⟩ := H
  replace H : (some (t306, t307, t308, t309)) = some (r1, r2, r3, r4) := H
  have A5 := Aside0.mk A50
  clear A50
  simp only [Option.some.injEq, Prod.mk.injEq] at H
  obtain ⟨rfl, rfl, rfl, rfl⟩ := H
  go_enter Tryd.func39, Tryd.ntmps39
  go_wp2_with (first | ((with_reducible refine gate_dst (N := 2) rfl ?_); refine M.bx 2 70 (#[.string a0_0, .int .i64 a0_1, .int .i64 a0_2]) ?_; intro zce hg w6 hbox hb; have zcf := Aside0.mk (hbox); have zcg := M.upG HB hg; have zch := M.upG HB hg; replace HB := M.upS HB hb; clear hb hbox hg) | ((with_reducible refine gate_dst (N := 4) rfl ?_); refine M.bx 4 70 (#[.string (⟨#[]⟩ : ByteArray), .int .i64 0, .int .i64 0]) ?_; intro zci hg w7 hbox hb; have zcj := Aside0.mk (hbox); have zck := M.upG HB hg; have zcl := M.upG HB hg; replace HB := M.upS HB hb; have zcm := M.bkL zcf hg; have zcn := M.bkG zcf hg; replace zcf := M.bkB zcf hb; clear hb hbox hg; have zco := zcm.out; have zcp := zcn.out; obtain ⟨zb8, zb9, zca⟩ := M.bc3 (w := w7) (a := .string a0_0) (b := .int .i64 a0_1) (c := .int .i64 a0_2) zcf.out; obtain ⟨zcb, zcc, zcd⟩ := M.bf3 zcf) | ((with_reducible refine gate_callee (f := 37) rfl ?_); refine M.goes (some 10) Tryd.func37 #[.agg #[.string a0_0, .int .i64 a0_1, .int .i64 a0_2], .int .i64 a1] rfl ?_; (with_reducible refine (pleachref04_Num.calls a0_0 a0_1 a0_2 a1 t302 t303 t304 t305 _ A3.out).mono ?_); rintro e w10 ⟨rfl, hb⟩; refine ⟨_, rfl, ?_⟩; replace zcf := M.bkB zcf hb; replace zcj := M.bkB zcj hb; replace HB := M.upS HB hb; (try clear hb); obtain ⟨zcq, zcr, zcs⟩ := M.bc3 (w := w10) (a := .string a0_0) (b := .int .i64 a0_1) (c := .int .i64 a0_2) zcf.out; obtain ⟨zct, zcu, zcv⟩ := M.bf3 zcf) | ((with_reducible refine gate_callee (f := 57) rfl ?_); refine M.goes (some 19) Tryd.func57 #[.agg #[.string t302, .int .i64 t303, .int .i64 t304], .int .i64 t305] rfl ?_; (with_reducible refine (pleachref04_fix.calls t302 t303 t304 t305 t306 t307 t308 t309 _ A5.out).mono ?_); rintro e w12 ⟨rfl, hb⟩; refine ⟨_, rfl, ?_⟩; replace zcf := Aside0.mk (blk_below (g := zce) (o := .cells #[.string t302, .int .i64 t303, .int .i64 t304] 70 (0, 0)) (by refine M.fp (cs := #[.string t302, .int .i64 t303, .int .i64 a0_2]) ?_ 2; refine M.fp (cs := #[.string t302, .int .i64 a0_1, .int .i64 a0_2]) ?_ 1; refine M.fp (cs := #[.string a0_0, .int .i64 a0_1, .int .i64 a0_2]) ?_ 0; exact M.bk zcf) hb); replace zcj := Aside0.mk (blk_below (g := zci) (o := .cells #[.string (⟨#[]⟩ : ByteArray), .int .i64 0, .int .i64 0] 70 (0, 0)) (by refine M.fr ?_ zcn; refine M.fr ?_ zcn; refine M.fr ?_ zcn; exact M.bk zcj) hb); replace HB := M.upS HB hb; (try clear hb); obtain ⟨zcw, zcx, zcy⟩ := M.bc3 (w := w12) (a := .string (⟨#[]⟩ : ByteArray)) (b := .int .i64 0) (c := .int .i64 0) zcj.out; obtain ⟨zcz, zcA, zcB⟩ := M.bf3 zcj))
  refine bodyPost_ret (results_ct rfl _ _ zci 70 #[.string t306, .int .i64 t307, .int .i64 t308] (0, 0) _ rfl (by refine M.fp (cs := #[.string t306, .int .i64 t307, .int .i64 0]) ?_ 2; refine M.fp (cs := #[.string t306, .int .i64 0, .int .i64 0]) ?_ 1; refine M.fp (cs := #[.string (⟨#[]⟩ : ByteArray), .int .i64 0, .int .i64 0]) ?_ 0; exact M.bk zcj) Tryd.underlying70 rfl (by kernel_rfl)) rfl ?_
  exact M.fin (M.up HB)
 ·rw [if_neg c4] at H
  have c4b0 : (t304 == 0) = false := beq_eq_false_iff_ne.mpr c4
  have c4b1 : (t304 != 0) = true := bne_iff_ne.mpr c4
  simp only [Option.some.injEq, Prod.mk.injEq] at H
  obtain ⟨rfl, rfl, rfl, rfl⟩ := H
  go_enter Tryd.func39, Tryd.ntmps39
  go_wp2_with (first | ((with_reducible refine gate_dst (N := 2) rfl ?_); refine M.bx 2 70 (#[.string a0_0, .int .i64 a0_1, .int .i64 a0_2]) ?_; intro zce hg w14 hbox hb; have zcf := Aside0.mk (hbox); have zcg := M.upG HB hg; have zch := M.upG HB hg; replace HB := M.upS HB hb; clear hb hbox hg) | ((with_reducible refine gate_dst (N := 4) rfl ?_); refine M.bx 4 70 (#[.string (⟨#[]⟩ : ByteArray), .int .i64 0, .int .i64 0]) ?_; intro zci hg w15 hbox hb; have zcj := Aside0.mk (hbox); have zck := M.upG HB hg; have zcl := M.upG HB hg; replace HB := M.upS HB hb; have zcm := M.bkL zcf hg; have zcn := M.bkG zcf hg; replace zcf := M.bkB zcf hb; clear hb hbox hg; have zcC := zcm.out; have zcD := zcn.out; obtain ⟨zcE, zcF, zcG⟩ := M.bc3 (w := w15) (a := .string a0_0) (b := .int .i64 a0_1) (c := .int .i64 a0_2) zcf.out; obtain ⟨zcH, zcI, zcJ⟩ := M.bf3 zcf) | ((with_reducible refine gate_callee (f := 37) rfl ?_); refine M.goes (some 10) Tryd.func37 #[.agg #[.string a0_0, .int .i64 a0_1, .int .i64 a0_2], .int .i64 a1] rfl ?_; (with_reducible refine (pleachref04_Num.calls a0_0 a0_1 a0_2 a1 t302 t303 t304 t305 _ A3.out).mono ?_); rintro e w18 ⟨rfl, hb⟩; refine ⟨_, rfl, ?_⟩; replace zcf := M.bkB zcf hb; replace zcj := M.bkB zcj hb; replace HB := M.upS HB hb; (try clear hb); obtain ⟨zcK, zcL, zcM⟩ := M.bc3 (w := w18) (a := .string a0_0) (b := .int .i64 a0_1) (c := .int .i64 a0_2) zcf.out; obtain ⟨zcN, zcO, zcP⟩ := M.bf3 zcf; obtain ⟨zaG, zaH, zaI⟩ := M.bc3 (w := w18) (a := .string (⟨#[]⟩ : ByteArray)) (b := .int .i64 0) (c := .int .i64 0) zcj.out; obtain ⟨zaJ, zaK, zaL⟩ := M.bf3 zcj))
  refine bodyPost_ret (results_ct rfl _ _ zci 70 #[.string t302, .int .i64 t303, .int .i64 t304] (0, 0) _ rfl (by refine M.fp (cs := #[.string t302, .int .i64 t303, .int .i64 0]) ?_ 2; refine M.fp (cs := #[.string t302, .int .i64 0, .int .i64 0]) ?_ 1; refine M.fp (cs := #[.string (⟨#[]⟩ : ByteArray), .int .i64 0, .int .i64 0]) ?_ 0; refine M.fr ?_ zcn; refine M.fr ?_ zcn; refine M.fr ?_ zcn; exact M.bk zcj) Tryd.underlying70 rfl (by kernel_rfl)) rfl ?_
  exact M.fin (M.up HB)
def pleachref04_Text.f (a0_0 : ByteArray) (a0_1 : Int) (a0_2 : Int) (a1 : Int) : Option (ByteArray × Int × Int × ByteArray) :=
  if M.sok a0_0 a0_1 ∧ a1 ≤ 9223372036854775807 ∧ a0_0.size ≤ 9223372036854775806 then some (a0_0, (M.xtext a0_0 a0_1 a0_2 a1).2.1, (M.xtext a0_0 a0_1 a0_2 a1).2.2, (M.xtext a0_0 a0_1 a0_2 a1).1) else none
theorem pleachref04_Text.ev (s : ByteArray) (p er n : Int) (r : ByteArray × Int × Int × ByteArray) (h : pleachref04_Text.f s p er n = some r) : pleachref04_Text_p.f s p er n = some r := by
 unfold pleachref04_Text.f at h
 split at h
 case isFalse => cases h
 case isTrue hh =>
  have hok := M.xnum_ok s er n hh.1
  have hr : 0 ≤ (M.xnum s p er n).1 ∧ (M.xnum s p er n).1 ≤ 9223372036854775807 := by
   unfold M.xnum
   split
   ·exact M.snum_range s hh.1 hh.2.1
   ·simp
  unfold pleachref04_Text_p.f pleachref04_Num.f
  rw [if_pos hh, Option.bind_some, ← h]
  unfold M.xtext
  generalize M.xnum s p er n = q at hok hr ⊢
  obtain ⟨m, p', e'⟩ := q
  simp only at hok hr ⊢
  by_cases he : e' = 0
  ·rw [if_pos he]
   unfold pleachref04_fix.f
   rw [if_pos ⟨hok, by omega, by omega⟩]; rfl
  ·rw [if_neg he]
   unfold M.xfix
   rw [if_neg he]; rfl
theorem pleachref04_Text.calls (a0_0 : ByteArray) (a0_1 : Int) (a0_2 : Int) (a1 : Int) (r1 : ByteArray) (r2 : Int) (r3 : Int) (r4 : ByteArray) (w : World) (h : pleachref04_Text.f a0_0 a0_1 a0_2 a1 = some (r1, r2, r3, r4)) :
    Calls Tryd.prog 39 #[.agg #[.string a0_0, .int .i64 a0_1, .int .i64 a0_2], .int .i64 a1] w fun e w' => e = .returned (.tuple #[.agg #[.string r1, .int .i64 r2, .int .i64 r3], .string r4]) ∧ Below w.heap.size w w' := by
 exact pleachref04_Text_p.calls (w := w) (h := pleachref04_Text.ev _ _ _ _ _ h)
end Go.Proofs.YtikdbklmhjlfoaaDoor.ECommitKnots
