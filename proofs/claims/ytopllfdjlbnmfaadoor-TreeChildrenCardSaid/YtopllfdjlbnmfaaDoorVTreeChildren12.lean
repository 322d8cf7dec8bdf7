-- Laid by this session's own program (wip/tools/fold.py): this session's texts, cut to what the claim names and put together; Lean checks it.
import Derived.Test.YtopllfdjlbnmfaaDoorVTreeChildren1
import Derived.Test.YtopllfdjlbnmfaaDoorVTreeChildren11
import Derived.Test.YtopllfdjlbnmfaaDoorXTreeChildren1
namespace Go.Proofs.YtopllfdjlbnmfaaDoor.ETreeChildren
open Go.RowKit Go.Proofs.YtopllfdjlbnmfaaDoorW.PrintWords Go.Proofs.YtopllfdjlbnmfaaDoorW.PrintLast Go.Proofs.YtopllfdjlbnmfaaDoorW.PrintMore
attribute [local go_sem] M.run_leq M.run_gtr M.run_geq max2_int min2_int max_two min_two max_three min_three max_four min_four
set_option linter.unusedVariables false
set_option linter.unusedSimpArgs false
mutual
def pleachref19_Put.j0 : Nat → ByteArray → Int → List (S78) → List Int → Option (ByteArray)
  | 0, _, _, _, _ => none
  | k + 1, x3, zaa, zab, zac => (pleachref04_PutNum.f (zab.length : Int)).bind fun t307 => (if x3.size + t307.size ≤ 9223372036854775807 then (pleachref19_Put.l0 k (x3 ++ t307) 0 zaa zab zac) else (none))
def pleachref19_Put.l0 : Nat → ByteArray → Int → Int → List (S78) → List Int → Option (ByteArray)
  | 0, _, _, _, _, _ => none
  | k + 1, x3, x4, zaa, zab, zac => if x4 < (zab.length : Int) then (if 0 ≤ x4 then ((pleachref04_PutText.f ((rd_T78 zab x4).f0)).bind fun t309 => (if x3.size + t309.size ≤ 9223372036854775807 then (if zaa > 0 then (if (x3 ++ t309).size + ((rd_T78 zab x4).f1).size ≤ 9223372036854775807 then (if x4 < (zac.length : Int) then ((pleachref04_PutNum.f (rd zac x4)).bind fun t312 => (if ((x3 ++ t309) ++ ((rd_T78 zab x4).f1)).size + t312.size ≤ 9223372036854775807 then (pleachref19_Put.l0 k (((x3 ++ t309) ++ ((rd_T78 zab x4).f1)) ++ t312) (wrap64 (x4 + 1)) zaa zab zac) else (none))) else (none)) else (none)) else ((pleachref04_PutText.f ((rd_T78 zab x4).f1)).bind fun t314 => (if (x3 ++ t309).size + t314.size ≤ 9223372036854775807 then (pleachref19_Put.l0 k ((x3 ++ t309) ++ t314) (wrap64 (x4 + 1)) zaa zab zac) else (none)))) else (none))) else (none)) else (some x3)
end
def pleachref19_Put.f (k : Nat) (a0_0 : Int) (l0_1 : List (S78)) (l0_2 : List Int) : Option (ByteArray) := (pleachref19_Wrong.f k a0_0 l0_1 l0_2).bind fun t305 => (if t305 = 0 then (if a0_0 > 0 then ((pleachref04_PutNum.f a0_0).bind fun t306 => (if 1 + t306.size ≤ 9223372036854775807 then (pleachref19_Put.j0 k ((⟨#[73]⟩ : ByteArray) ++ t306) a0_0 l0_1 l0_2) else (none))) else (pleachref19_Put.j0 k (⟨#[76]⟩ : ByteArray) a0_0 l0_1 l0_2)) else (some (⟨#[]⟩ : ByteArray)))
theorem pleachref19_Put.mono_l : ∀ k, (∀ y0 y1 y2 y3, LeO (pleachref19_Put.j0 k y0 y1 y2 y3) (pleachref19_Put.j0 (k + 1) y0 y1 y2 y3)) ∧ (∀ y0 y1 y2 y3 y4, LeO (pleachref19_Put.l0 k y0 y1 y2 y3 y4) (pleachref19_Put.l0 (k + 1) y0 y1 y2 y3 y4))
  | 0 => ⟨fun _ _ _ _ r h => by simp [pleachref19_Put.j0] at h, fun _ _ _ _ _ r h => by simp [pleachref19_Put.l0] at h⟩
  | k + 1 => by
    obtain ⟨ih0, ih1⟩ := pleachref19_Put.mono_l k
    refine ⟨?_, ?_⟩
    · intro y0 y1 y2 y3
      unfold pleachref19_Put.j0
      repeat' first
      | (with_reducible exact ih1 _ _ _ _ _)
      | (with_reducible exact LeO.refl _)
      | (with_reducible refine LeO.ite ?_ ?_)
      | (with_reducible refine LeO.bind ?_ (fun _ => ?_))
    · intro y0 y1 y2 y3 y4
      unfold pleachref19_Put.l0
      repeat' first
      | (with_reducible exact ih1 _ _ _ _ _)
      | (with_reducible exact LeO.refl _)
      | (with_reducible refine LeO.ite ?_ ?_)
      | (with_reducible refine LeO.bind ?_ (fun _ => ?_))
theorem pleachref19_Put.mono : ∀ a0 a1 a2 k, LeO (pleachref19_Put.f k a0 a1 a2) (pleachref19_Put.f (k + 1) a0 a1 a2) := by
  intro a0 a1 a2 k
  obtain ⟨ih0, ih1⟩ := pleachref19_Put.mono_l k
  unfold pleachref19_Put.f
  repeat' first
      | (with_reducible exact ih0 _ _ _ _)
      | (with_reducible exact pleachref19_Wrong.mono _ _ _ _)
      | (with_reducible exact LeO.refl _)
      | (with_reducible refine LeO.ite ?_ ?_)
      | (with_reducible refine LeO.bind ?_ (fun _ => ?_))
def pleachref19_Put.T12 : Bool × List (List Nat × List Nat) := (true, [([], []), ([], []), ([1], [1]), ([], []), ([2, 3], [2, 3]), ([4], [4]), ([5], [5]), ([0, 6], [0, 6]), ([], []), ([8], [8]), ([], []), ([9, 10], [9, 10]), ([11], [11]), ([12], [12]), ([7, 13], [7, 13]), ([14, 13, 0, 1, 2, 3, 4, 5, 6, 7, 8, 9, 10, 11, 12, 13, 14], [0, 14])])
def pleachref19_Put.B12 : List Nat := [0, 0, 2, 0, 14, 30, 62, 127, 0, 256, 0, 1792, 3840, 7936, 16383, 32767]
theorem pleachref19_Put.tab12 : rtab .any (opsOf Tryd.f40 12) = pleachref19_Put.T12 := by kernel_rfl
theorem pleachref19_Put.bits12 : waitsOk pleachref19_Put.T12.2 pleachref19_Put.B12 = true := by kernel_rfl
set_option maxHeartbeats 8000000 in
set_option maxRecDepth 100000 in
theorem pleachref19_Put.calls (k : Nat) (a0_0 : Int) (A0_1 : Option Addr) (c0_1 : Nat) (l0_1 : List (S78)) (A0_2 : Option Addr) (c0_2 : Nat) (l0_2 : List Int) (r : ByteArray) (w : World) (hr0_1 : Kd.C k78 w A0_1 l0_1.length l0_1) (hc0_1 : l0_1.length ≤ c0_1) (hr0_2 : Kd.C (Kd.int .i64) w A0_2 l0_2.length l0_2) (hc0_2 : l0_2.length ≤ c0_2) (h : pleachref19_Put.f k a0_0 l0_1 l0_2 = some r) :
    Calls Tryd.prog 40 #[.agg #[.int .i64 a0_0, .slice A0_1 l0_1.length c0_1, .slice A0_2 l0_2.length c0_2]] w fun e w' => e = .returned (.string r) ∧ Below w.heap.size w w' := by
 have hu26 := Tryd.underlying26
 have HR0_1 := Aside0.mk hr0_1
 have HC0_1 := Aside0.mk hc0_1
 clear hr0_1 hc0_1
 have HR0_2 := Aside0.mk hr0_2
 have HC0_2 := Aside0.mk hc0_2
 clear hr0_2 hc0_2
 have HB := Aside0.mk (Below.refl w.heap.size w)
 have H := h; unfold pleachref19_Put.f at H
 clear h
 replace H := Option.bind_eq_some_iff.mp H
 obtain ⟨t305, A20, H⟩ := H
 try simp only at H
 have A2 := Aside0.mk A20
 clear A20
 by_cases c3 : t305 = 0
 ·rw [if_pos c3] at H
  have c3b0 : (t305 == 0) = true := beq_iff_eq.mpr c3
  have c3b1 : (t305 != 0) = false := bne_eq_false_iff_eq.mpr c3
  clear c3
  have HC4 := Aside0.mk H
  clear H
  go_enter Tryd.func40, Tryd.ntmps40
  go_upto_if 10 with (first | ((with_reducible refine gate_dst (N := 1) rfl ?_); refine M.bx 1 26 (#[.int .i64 a0_0, .slice A0_1 l0_1.length c0_1, .slice A0_2 l0_2.length c0_2]) ?_; intro zad hg w5 hbox hb; have zae := Aside0.mk (hbox); have zaf := M.upG HB hg; have zag := M.upG HB hg; replace HB := M.upS HB hb; clear hb hbox hg; obtain ⟨zah, zai, zaj⟩ := M.bc3 (w := w5) (a := .int .i64 a0_0) (b := .slice A0_1 l0_1.length c0_1) (c := .slice A0_2 l0_2.length c0_2) zae.out; obtain ⟨zak, zal, zam⟩ := M.bf3 zae) | ((with_reducible refine gate_callee (f := 58) rfl ?_); refine M.goes (some 6) Tryd.func58 #[.agg #[.int .i64 a0_0, .slice A0_1 l0_1.length c0_1, .slice A0_2 l0_2.length c0_2]] rfl ?_; (with_reducible refine (pleachref19_Wrong.calls k a0_0 _ _ l0_1 _ _ l0_2 t305 _ ?side1 ?side2 ?side3 ?side4 A2.out).mono ?_); (case side1 => exact M.cB HR0_1 HB); (case side2 => exact HC0_1.out); (case side3 => exact M.cB HR0_2 HB); (case side4 => exact HC0_2.out); rintro e w7 ⟨rfl, hb⟩; refine ⟨_, rfl, ?_⟩; replace zae := M.bkB zae hb; replace HB := M.upS HB hb; clear hb; obtain ⟨zan, zao, zap⟩ := M.bc3 (w := w7) (a := .int .i64 a0_0) (b := .slice A0_1 l0_1.length c0_1) (c := .slice A0_2 l0_2.length c0_2) zae.out; obtain ⟨zaq, zar, zas⟩ := M.bf3 zae))
  go_cut [3] (fun v3 wc => ∃ (kq : Nat) (x3_3 : ByteArray), v3 = .string x3_3 ∧ Aside0 (pleachref19_Put.j0 kq x3_3 a0_0 l0_1 l0_2 = some r) ∧ Aside0 (kq ≤ k) ∧ Aside0 (wc.heap[zad]? = some (.cells #[.int .i64 a0_0, (.slice A0_1 l0_1.length c0_1), (.slice A0_2 l0_2.length c0_2)] 26 (0, 0))) ∧ Aside0 (Below w.heap.size w wc))
  case first =>
   have H := HC4.out
   clear HC4
   by_cases c9 : a0_0 > 0
   ·rw [if_pos c9] at H
    have c9b0 := decide_eq_true c9
    clear c9
    ((rw [c9b0]))
    replace H := Option.bind_eq_some_iff.mp H
    obtain ⟨t306, A100, H⟩ := H
    try simp only at H
    have A10 := Aside0.mk A100
    clear A100
    by_cases c11 : 1 + t306.size ≤ 9223372036854775807
    ·rw [if_pos c11] at H
     have c11b0 := eq_true c11
     have c11b1 := decide_eq_true c11
     try have c11b2 : (9223372036854775807 < 1 + t306.size) = False := eq_false (Nat.not_lt.2 c11)
     have H' := Aside0.mk H
     clear H
     obtain ⟨zat, zau, zav⟩ := M.bc3 (w := w7) (a := .int .i64 a0_0) (b := .slice A0_1 l0_1.length c0_1) (c := .slice A0_2 l0_2.length c0_2) zae.out
     obtain ⟨zaw, zax, zay⟩ := M.bf3 zae
     go_wp2_with (((with_reducible refine gate_callee (f := 59) rfl ?_); refine M.goes (some 13) Tryd.func59 #[.int .i64 a0_0] rfl ?_; (with_reducible refine (pleachref04_PutNum.calls a0_0 t306 _ A10.out).mono ?_); rintro e w13 ⟨rfl, hb⟩; refine ⟨_, rfl, ?_⟩; replace zae := M.bkB zae hb; replace HB := M.upS HB hb; clear hb))
     go_meet
     case rel => exact ⟨_, ((⟨#[73]⟩ : ByteArray) ++ t306), M.eqv, H', ⟨by (omega)⟩, ⟨M.bk zae⟩, ⟨M.up HB⟩⟩
    ·exact M.nf c11 H
   ·rw [if_neg c9] at H
    have c9b0 := decide_eq_false c9
    clear c9
    ((rw [c9b0]))
    have H' := Aside0.mk H
    clear H
    go_wp2
    go_meet
    case rel => exact ⟨_, ((⟨#[76]⟩ : ByteArray)), M.eqv, H', ⟨by (omega)⟩, ⟨M.bk zae⟩, ⟨M.up HB⟩⟩
  case rest =>
   clear HC4
   clear c3b0 c3b1 zah zai zaj zan zao zap zak zal zam zaq zar zas
   obtain ⟨kq, x3_3, rfl, HA, HJ3, zae, HB⟩ := hcut
   cases kq with
   | zero => exact absurd HA.out (by simp [pleachref19_Put.j0])
   | succ kj3 =>
    have H := HA.out
    clear HA
    simp only [pleachref19_Put.j0] at H
    replace H := Option.bind_eq_some_iff.mp H
    obtain ⟨t307, A140, H⟩ := H
    try simp only at H
    have A14 := Aside0.mk A140
    clear A140
    by_cases c15 : x3_3.size + t307.size ≤ 9223372036854775807
    ·rw [if_pos c15] at H
     have c15b0 := eq_true c15
     have c15b1 := decide_eq_true c15
     try have c15b2 : (9223372036854775807 < x3_3.size + t307.size) = False := eq_false (Nat.not_lt.2 c15)
     have H' := Aside0.mk H
     clear H
     obtain ⟨zaz, zaA, zaB⟩ := M.bc3 (w := wc) (a := .int .i64 a0_0) (b := .slice A0_1 l0_1.length c0_1) (c := .slice A0_2 l0_2.length c0_2) zae.out
     obtain ⟨zaC, zaD, zaE⟩ := M.bf3 zae
     go_wp2_with (((with_reducible refine gate_callee (f := 59) rfl ?_); refine M.goes (some 19) Tryd.func59 #[.int .i64 (l0_1.length : Int)] rfl ?_; (with_reducible refine (pleachref04_PutNum.calls (l0_1.length : Int) t307 _ A14.out).mono ?_); rintro e w17 ⟨rfl, hb⟩; refine ⟨_, rfl, ?_⟩; replace zae := M.bkB zae hb; replace HB := M.upS HB hb; clear hb))
     go_loopg [3, 4] kj3 (fun kq v3 v4 w' => ∃ (x3_2 : ByteArray) (x4_2 : Int), v3 = .string x3_2 ∧ v4 = .int .i64 x4_2 ∧ Aside0 (pleachref19_Put.l0 kq x3_2 x4_2 a0_0 l0_1 l0_2 = some r) ∧ Aside0 (kq ≤ kj3) ∧ Aside0 (w'.heap[zad]? = some (.cells #[.int .i64 a0_0, (.slice A0_1 l0_1.length c0_1), (.slice A0_2 l0_2.length c0_2)] 26 (0, 0))) ∧ Aside0 (Below w.heap.size w w'))
     case atStart => exact ⟨(x3_3 ++ t307), (0), M.eqv, M.eqv, H', ⟨Nat.le_refl _⟩, ⟨M.bk zae⟩, ⟨M.up HB⟩⟩
     case round =>
      clear H'
      clear c15 c15b0 c15b1 c15b2 zaz zaA zaB zaC zaD zaE
      obtain ⟨x3_2, x4_2, rfl, rfl, HA, HK2, zae, HB⟩ := hrel
      cases gk with
      | zero => exact absurd HA.out (by simp [pleachref19_Put.l0])
      | succ k2 =>
       have H := HA.out
       clear HA
       simp only [pleachref19_Put.l0] at H
       by_cases c18 : x4_2 < (l0_1.length : Int)
       ·rw [if_pos c18] at H
        have c18b0 := decide_eq_true c18
        clear c18
        by_cases c19 : 0 ≤ x4_2
        ·rw [if_pos c19] at H
         have c19b0 := decide_eq_true c19
         clear c19
         replace H := Option.bind_eq_some_iff.mp H
         obtain ⟨t309, A200, H⟩ := H
         try simp only at H
         have A20 := Aside0.mk A200
         clear A200
         by_cases c21 : x3_2.size + t309.size ≤ 9223372036854775807
         ·rw [if_pos c21] at H
          have c21b0 := eq_true c21
          have c21b1 := decide_eq_true c21
          try have c21b2 : (9223372036854775807 < x3_2.size + t309.size) = False := eq_false (Nat.not_lt.2 c21)
          by_cases c22 : a0_0 > 0
          ·rw [if_pos c22] at H
           have c22b0 := decide_eq_true c22
           clear c22
           by_cases c23 : (x3_2 ++ t309).size + ((rd_T78 l0_1 x4_2).f1).size ≤ 9223372036854775807
           ·rw [if_pos c23] at H
            have c23b0 := eq_true c23
            have c23b1 := decide_eq_true c23
            try have c23b2 : (9223372036854775807 < (x3_2 ++ t309).size + ((rd_T78 l0_1 x4_2).f1).size) = False := eq_false (Nat.not_lt.2 c23)
            have c23m := c23
            simp only [ByteArray.size_append] at c23m
            have c23b3 := eq_true c23m
            have c23b4 := eq_false (Nat.not_lt.2 c23m)
            have c23b5 := decide_eq_true c23m
            by_cases c24 : x4_2 < (l0_2.length : Int)
            ·rw [if_pos c24] at H
             have c24b0 := decide_eq_true c24
             clear c24
             replace H := Option.bind_eq_some_iff.mp H
             obtain ⟨t312, A250, H⟩ := H
             try simp only at H
             have A25 := Aside0.mk A250
             clear A250
             by_cases c26 : ((x3_2 ++ t309) ++ ((rd_T78 l0_1 x4_2).f1)).size + t312.size ≤ 9223372036854775807
             ·rw [if_pos c26] at H
              have c26b0 := eq_true c26
              have c26b1 := decide_eq_true c26
              try have c26b2 : (9223372036854775807 < ((x3_2 ++ t309) ++ ((rd_T78 l0_1 x4_2).f1)).size + t312.size) = False := eq_false (Nat.not_lt.2 c26)
              have c26m := c26
              simp only [ByteArray.size_append] at c26m
              have c26b3 := eq_true c26m
              have c26b4 := eq_false (Nat.not_lt.2 c26m)
              have c26b5 := decide_eq_true c26m
              have H' := Aside0.mk H
              clear H
              obtain ⟨zaF, zaG, zaH⟩ := M.bc3 (w := wr) (a := .int .i64 a0_0) (b := .slice A0_1 l0_1.length c0_1) (c := .slice A0_2 l0_2.length c0_2) zae.out
              obtain ⟨zaI, zaJ, zaK⟩ := M.bf3 zae
              have p308 : 0 ≤ (x4_2 : Int) := M.dt
              have q308 : x4_2 < (l0_1.length : Int) := M.dt
              obtain ⟨ad308, e308, hx308_0, hx308_1⟩ := at_T78 HR0_1.out x4_2 p308 q308
              cases e308
              replace hx308_0 := M.hc HB hx308_0
              replace hx308_1 := M.hc HB hx308_1
              replace p308 := eq_true p308
              replace q308 := eq_true q308
              try go_wp2_with (((with_reducible refine gate_callee (f := 60) rfl ?_); refine M.goes (some 35) Tryd.func60 #[.string ((rd_T78 l0_1 x4_2).f0)] rfl ?_; (with_reducible refine (pleachref04_PutText.calls ((rd_T78 l0_1 x4_2).f0) t309 _ A20.out).mono ?_); rintro e w28 ⟨rfl, hb⟩; refine ⟨_, rfl, ?_⟩; replace zae := M.bkB zae hb; replace HB := M.upS HB hb; clear hb; obtain ⟨zaL, zaM, zaN⟩ := M.bc3 (w := w28) (a := .int .i64 a0_0) (b := .slice (some ad308) l0_1.length c0_1) (c := .slice A0_2 l0_2.length c0_2) zae.out; obtain ⟨zaO, zaP, zaQ⟩ := M.bf3 zae))
              replace zae := Aside0.mk (blk_drew zae.out); replace HB := Aside0.mk (below_drew1 HB.out)
              have p310 : 0 ≤ (x4_2 : Int) := M.dt
              have q310 : x4_2 < (l0_1.length : Int) := M.dt
              obtain ⟨ad310, e310, hx310_0, hx310_1⟩ := at_T78 HR0_1.out x4_2 p310 q310
              have hw310_1 := hx310_1
              have hw310_0 := hx310_0
              obtain rfl : ad308 = ad310 := (by injection e310)
              replace hx310_0 := M.hc HB hx310_0
              replace hx310_1 := M.hc HB hx310_1
              replace p310 := eq_true p310
              replace q310 := eq_true q310
              have p311 : 0 ≤ (x4_2 : Int) := M.dt
              have q311 : x4_2 < (l0_2.length : Int) := M.dt
              obtain ⟨ad311, e311, hx311_0⟩ := Kd.at_int HR0_2.out x4_2 p311 q311
              have hw311_0 := hx311_0
              cases e311
              replace hx311_0 := M.hc HB hx311_0
              replace p311 := eq_true p311
              replace q311 := eq_true q311
              refine start_ (n := 16) (S := fun w' => w'.cell? ⟨zad, 0, none⟩ = some (.int .i64 a0_0) ∧ w'.cell? ⟨zad, 1, none⟩ = some (.slice (some ad308) l0_1.length c0_1) ∧ w'.cell? ⟨zad, 2, none⟩ = some (.slice (some ad311) l0_2.length c0_2) ∧ w'.cell? (ad308.add ((x4_2).toNat * 2)) = some (.string ((rd_T78 l0_1 x4_2).f0)) ∧ w'.cell? ⟨(ad308.add ((x4_2).toNat * 2)).block, (ad308.add ((x4_2).toNat * 2)).off + 1, none⟩ = some (.string ((rd_T78 l0_1 x4_2).f1)) ∧ w'.cell? (ad311.add (x4_2).toNat) = some (.int .i64 (rd l0_2 x4_2))) (ds := []) (M.tf [0, 16]) (by kernel_rfl) rfl rfl ⟨(blk_cell zae.out 0).trans rfl, (blk_cell zae.out 1).trans rfl, (blk_cell zae.out 2).trans rfl, ((HB.out.cell (World.block_lt_of_cell? w _ hw310_0)).trans hw310_0), ((HB.out.cell (World.block_lt_of_cell? w _ hw310_1)).trans hw310_1), ((HB.out.cell (World.block_lt_of_cell? w _ hw311_0)).trans hw311_0)⟩ (fun hHeld => ?_); refine with_tabW pleachref19_Put.tab12 pleachref19_Put.bits12 (fun HT_ HW_ => ?_)
              generalize w28.drew = w30 at zae HB hx310_0 hx310_1 hx311_0 hHeld ⊢
              refine M.pu 0 40 [1, 15] HT_ ?_
              refine M.pu 1 41 [2, 14] HT_ ?_
              refine M.pu 3 43 [2, 1, 1, 12] HT_ ?_
              refine M.pu 8 48 [2, 1, 1, 4, 1, 7] HT_ ?_
              refine M.pu 10 50 [2, 1, 1, 4, 1, 1, 1, 5] HT_ ?_
              refine M.tk 2 42 [4, 4, 1, 1, 1, 5] HT_ HW_ hHeld ?_
              refine M.pu 4 44 [5, 3, 1, 1, 1, 5] HT_ ?_
              refine M.pu 5 45 [6, 2, 1, 1, 1, 5] HT_ ?_
              refine M.tk 6 46 [7, 1, 1, 1, 1, 5] HT_ HW_ hHeld ?_
              refine M.pu 7 47 [9, 1, 1, 5] HT_ ?_
              refine M.tk 9 49 [11, 5] HT_ HW_ hHeld ?_
              refine M.pu 11 51 [12, 4] HT_ ?_
              refine M.tk 12 52 [13, 3] HT_ HW_ hHeld ?_
              refine one_ (i := 13) (N := some 53) (M.tf [14, 2]) rfl rfl (one_of HT_.out (by kernel_rfl)) (by decide) (fun K hK => ?_)
              refine goes_ Tryd.func59 (by kernel_rfl) rfl #[.int .i64 (rd l0_2 x4_2)] (by rfl) rfl rfl (by simp only [List.map_toArray, List.map_cons, List.map_nil]; (rfl)) ?_
              with_reducible refine (pleachref04_PutNum.calls (rd l0_2 x4_2) t312 _ A25.out).mono ?_
              rintro e w31 ⟨rfl, hb⟩
              refine ⟨_, rfl, ?_⟩
              replace zae := M.bkB zae hb; replace HB := M.upS HB hb
              clear hb
              refine hK.out _ _ ⟨(blk_cell zae.out 0).trans rfl, (blk_cell zae.out 1).trans rfl, (blk_cell zae.out 2).trans rfl, ((HB.out.cell (World.block_lt_of_cell? w _ hw310_0)).trans hw310_0), ((HB.out.cell (World.block_lt_of_cell? w _ hw310_1)).trans hw310_1), ((HB.out.cell (World.block_lt_of_cell? w _ hw311_0)).trans hw311_0)⟩ (fun hHeld => ?_)
              clear hK K
              refine norm_ (a' := ?_) ?_ ?_
              rotate_left
              ·show Act.put _ (some 53) _ = _
               simp only [Act.put, List.setIfInBounds_toArray, List.set_cons_zero, List.set_cons_succ, i64_w, i32_w]
               rfl
              refine M.pu 14 54 [15, 1] HT_ ?_
              refine M.pu 15 3 [16] HT_ ?_
              refine done_ (done_of HT_.out (by kernel_rfl)) ?_
              try go_wp2
              go_roundg k2
              case measure => have := HJ3.out; have := HK2.out; omega
              case rel => exact ⟨(((x3_2 ++ t309) ++ ((rd_T78 l0_1 x4_2).f1)) ++ t312), (wrap64 (x4_2 + 1)), M.eqv, M.eqv, H', ⟨by have := HJ3.out; have := HK2.out; omega⟩, ⟨M.bk zae⟩, ⟨M.up HB⟩⟩
             ·exact M.nf c26 H
            ·exact M.nf c24 H
           ·exact M.nf c23 H
          ·rw [if_neg c22] at H
           have c22b0 := decide_eq_false c22
           clear c22
           replace H := Option.bind_eq_some_iff.mp H
           obtain ⟨t314, A320, H⟩ := H
           try simp only at H
           have A32 := Aside0.mk A320
           clear A320
           by_cases c33 : (x3_2 ++ t309).size + t314.size ≤ 9223372036854775807
           ·rw [if_pos c33] at H
            have c33b0 := eq_true c33
            have c33b1 := decide_eq_true c33
            try have c33b2 : (9223372036854775807 < (x3_2 ++ t309).size + t314.size) = False := eq_false (Nat.not_lt.2 c33)
            have c33m := c33
            simp only [ByteArray.size_append] at c33m
            have c33b3 := eq_true c33m
            have c33b4 := eq_false (Nat.not_lt.2 c33m)
            have c33b5 := decide_eq_true c33m
            have H' := Aside0.mk H
            clear H
            obtain ⟨zaR, zaS, zaT⟩ := M.bc3 (w := wr) (a := .int .i64 a0_0) (b := .slice A0_1 l0_1.length c0_1) (c := .slice A0_2 l0_2.length c0_2) zae.out
            obtain ⟨zaU, zaV, zaW⟩ := M.bf3 zae
            have p308 : 0 ≤ (x4_2 : Int) := M.dt
            have q308 : x4_2 < (l0_1.length : Int) := M.dt
            obtain ⟨ad308, e308, hx308_0, hx308_1⟩ := at_T78 HR0_1.out x4_2 p308 q308
            cases e308
            replace hx308_0 := M.hc HB hx308_0
            replace hx308_1 := M.hc HB hx308_1
            replace p308 := eq_true p308
            replace q308 := eq_true q308
            go_wp2_with (first | ((with_reducible refine gate_callee (f := 60) rfl ?_); refine M.goes (some 35) Tryd.func60 #[.string ((rd_T78 l0_1 x4_2).f0)] rfl ?_; (with_reducible refine (pleachref04_PutText.calls ((rd_T78 l0_1 x4_2).f0) t309 _ A20.out).mono ?_); rintro e w35 ⟨rfl, hb⟩; refine ⟨_, rfl, ?_⟩; replace zae := M.bkB zae hb; replace HB := M.upS HB hb; clear hb; obtain ⟨zaX, zaY, zaZ⟩ := M.bc3 (w := w35) (a := .int .i64 a0_0) (b := .slice (some ad308) l0_1.length c0_1) (c := .slice A0_2 l0_2.length c0_2) zae.out; obtain ⟨za0, za1, za2⟩ := M.bf3 zae; have p313 : 0 ≤ (x4_2 : Int) := M.dt; have q313 : x4_2 < (l0_1.length : Int) := M.dt; obtain ⟨ad313, e313, hx313_0, hx313_1⟩ := at_T78 HR0_1.out x4_2 p313 q313; obtain rfl : ad308 = ad313 := (by injection e313); replace hx313_0 := M.hc HB hx313_0; replace hx313_1 := M.hc HB hx313_1; replace p313 := eq_true p313; replace q313 := eq_true q313) | ((with_reducible refine gate_callee (f := 60) rfl ?_); refine M.goes (some 62) Tryd.func60 #[.string ((rd_T78 l0_1 x4_2).f1)] rfl ?_; (with_reducible refine (pleachref04_PutText.calls ((rd_T78 l0_1 x4_2).f1) t314 _ A32.out).mono ?_); rintro e w37 ⟨rfl, hb⟩; refine ⟨_, rfl, ?_⟩; replace zae := M.bkB zae hb; replace HB := M.upS HB hb; clear hb))
            go_roundg k2
            case measure => have := HJ3.out; have := HK2.out; omega
            case rel => exact ⟨((x3_2 ++ t309) ++ t314), (wrap64 (x4_2 + 1)), M.eqv, M.eqv, H', ⟨by have := HJ3.out; have := HK2.out; omega⟩, ⟨M.bk zae⟩, ⟨M.up HB⟩⟩
           ·exact M.nf c33 H
         ·exact M.nf c21 H
        ·exact M.nf c19 H
       ·rw [if_neg c18] at H
        have c18b0 := decide_eq_false c18
        clear c18
        obtain rfl := Option.some.inj H
        obtain ⟨za3, za4, za5⟩ := M.bc3 (w := wr) (a := .int .i64 a0_0) (b := .slice A0_1 l0_1.length c0_1) (c := .slice A0_2 l0_2.length c0_2) zae.out
        obtain ⟨za6, za7, za8⟩ := M.bf3 zae
        go_wp2
        go_ret
        exact M.fin (M.up HB)
    ·exact M.nf c15 H
 ·rw [if_neg c3] at H
  have c3b0 : (t305 == 0) = false := beq_eq_false_iff_ne.mpr c3
  have c3b1 : (t305 != 0) = true := bne_iff_ne.mpr c3
  obtain rfl := Option.some.inj H
  go_enter Tryd.func40, Tryd.ntmps40
  go_wp2_with (first | ((with_reducible refine gate_dst (N := 1) rfl ?_); refine M.bx 1 26 (#[.int .i64 a0_0, .slice A0_1 l0_1.length c0_1, .slice A0_2 l0_2.length c0_2]) ?_; intro zad hg w39 hbox hb; have zae := Aside0.mk (hbox); have zaf := M.upG HB hg; have zag := M.upG HB hg; replace HB := M.upS HB hb; clear hb hbox hg; obtain ⟨za9, zba, zbb⟩ := M.bc3 (w := w39) (a := .int .i64 a0_0) (b := .slice A0_1 l0_1.length c0_1) (c := .slice A0_2 l0_2.length c0_2) zae.out; obtain ⟨zbc, zbd, zbe⟩ := M.bf3 zae) | ((with_reducible refine gate_callee (f := 58) rfl ?_); refine M.goes (some 6) Tryd.func58 #[.agg #[.int .i64 a0_0, .slice A0_1 l0_1.length c0_1, .slice A0_2 l0_2.length c0_2]] rfl ?_; (with_reducible refine (pleachref19_Wrong.calls k a0_0 _ _ l0_1 _ _ l0_2 t305 _ ?side1 ?side2 ?side3 ?side4 A2.out).mono ?_); (case side1 => exact M.cB HR0_1 HB); (case side2 => exact HC0_1.out); (case side3 => exact M.cB HR0_2 HB); (case side4 => exact HC0_2.out); rintro e w41 ⟨rfl, hb⟩; refine ⟨_, rfl, ?_⟩; replace zae := M.bkB zae hb; replace HB := M.upS HB hb; clear hb))
  go_ret
  exact M.fin (M.up HB)
def pleachref04_fix_p.f (a0_0 : ByteArray) (a0_1 : Int) (a0_2 : Int) (a1 : Int) : Option (ByteArray × Int × Int × ByteArray) := if a0_2 = 0 then (if a1 < 0 then (some (a0_0, a0_1, 3, (⟨#[]⟩ : ByteArray))) else (if a1 > (wrap64 ((a0_0.size : Int) - a0_1)) then (some (a0_0, a0_1, 3, (⟨#[]⟩ : ByteArray))) else (if 0 ≤ a0_1 then (if a0_1 ≤ (wrap64 (a0_1 + a1)) then (if (wrap64 (a0_1 + a1)) ≤ (a0_0.size : Int) then (some (a0_0, wrap64 (a0_1 + a1), a0_2, a0_0.extract (a0_1 : Int).toNat ((wrap64 (a0_1 + a1)) : Int).toNat)) else (none)) else (none)) else (none)))) else (some (a0_0, a0_1, a0_2, (⟨#[]⟩ : ByteArray)))
set_option maxHeartbeats 8000000 in
set_option maxRecDepth 100000 in
theorem pleachref04_fix_p.calls (a0_0 : ByteArray) (a0_1 : Int) (a0_2 : Int) (a1 : Int) (r1 : ByteArray) (r2 : Int) (r3 : Int) (r4 : ByteArray) (w : World) (h : pleachref04_fix_p.f a0_0 a0_1 a0_2 a1 = some (r1, r2, r3, r4)) :
    Calls Tryd.prog 81 #[.agg #[.string a0_0, .int .i64 a0_1, .int .i64 a0_2], .int .i64 a1] w fun e w' => e = .returned (.tuple #[.agg #[.string r1, .int .i64 r2, .int .i64 r3], .string r4]) ∧ Below w.heap.size w w' := by
 have hu107 := Tryd.underlying107
 have HB := Aside0.mk (Below.refl w.heap.size w)
 have H := h; unfold pleachref04_fix_p.f at H
 clear h
 by_cases c3 : a0_2 = 0
 ·rw [if_pos c3] at H
  have c3b0 : (a0_2 == 0) = true := beq_iff_eq.mpr c3
  have c3b1 : (a0_2 != 0) = false := bne_eq_false_iff_eq.mpr c3
  clear c3
  by_cases c4 : a1 < 0
  ·rw [if_pos c4] at H
   have c4b0 := decide_eq_true c4
   clear c4
   simp only [Option.some.injEq, Prod.mk.injEq] at H
   obtain ⟨rfl, rfl, rfl, rfl⟩ := H
   go_enter Tryd.func81, Tryd.ntmps81
   go_wp2_with (first | ((with_reducible refine gate_dst (N := 2) rfl ?_); ((refine gate_guard (by rfl) ?_; dsimp only)); refine M.bx 2 107 (#[.string a0_0, .int .i64 a0_1, .int .i64 a0_2]) ?_; intro zbf hg w5 hbox hb; have zbg := Aside0.mk (hbox); have zbh := M.upG HB hg; have zbi := M.upG HB hg; replace HB := M.upS HB hb; clear hb hbox hg) | ((with_reducible refine gate_dst (N := 4) rfl ?_); ((refine gate_guard (by rfl) ?_; dsimp only)); refine M.bx 4 107 (#[.string (⟨#[]⟩ : ByteArray), .int .i64 0, .int .i64 0]) ?_; intro zbj hg w6 hbox hb; have zbk := Aside0.mk (hbox); have zbl := M.upG HB hg; have zbm := M.upG HB hg; replace HB := M.upS HB hb; have zbn := M.bkL zbg hg; have zbo := M.bkG zbg hg; replace zbg := M.bkB zbg hb; clear hb hbox hg; have zbp := zbn.out; have zbq := zbo.out; obtain ⟨zan, zao, zap⟩ := M.bc3 (w := w6) (a := .string a0_0) (b := .int .i64 a0_1) (c := .int .i64 a0_2) zbg.out; obtain ⟨zaq, zar, zas⟩ := M.bf3 zbg; obtain ⟨zbr, zbs, zbt⟩ := M.bc3 (w := w6) (a := .string (⟨#[]⟩ : ByteArray)) (b := .int .i64 0) (c := .int .i64 0) zbk.out; obtain ⟨zbu, zbv, zbw⟩ := M.bf3 zbk))
   refine bodyPost_ret (results_ct rfl _ _ zbj 107 #[.string a0_0, .int .i64 a0_1, .int .i64 3] (0, 0) _ rfl (by refine M.fp (cs := #[.string a0_0, .int .i64 a0_1, .int .i64 0]) ?_ 2; refine M.fp (cs := #[.string a0_0, .int .i64 0, .int .i64 0]) ?_ 1; refine M.fp (cs := #[.string (⟨#[]⟩ : ByteArray), .int .i64 0, .int .i64 0]) ?_ 0; refine M.fr ?_ zbo; exact M.bk zbk) Tryd.underlying107 rfl (by kernel_rfl)) rfl ?_
   exact M.fin (M.up HB)
  ·rw [if_neg c4] at H
   have c4b0 := decide_eq_false c4
   clear c4
   by_cases c10 : a1 > (wrap64 ((a0_0.size : Int) - a0_1))
   ·rw [if_pos c10] at H
    have c10b0 := decide_eq_true c10
    clear c10
    simp only [Option.some.injEq, Prod.mk.injEq] at H
    obtain ⟨rfl, rfl, rfl, rfl⟩ := H
    go_enter Tryd.func81, Tryd.ntmps81
    go_wp2_with (first | ((with_reducible refine gate_dst (N := 2) rfl ?_); ((refine gate_guard (by rfl) ?_; dsimp only)); refine M.bx 2 107 (#[.string a0_0, .int .i64 a0_1, .int .i64 a0_2]) ?_; intro zbf hg w11 hbox hb; have zbg := Aside0.mk (hbox); have zbh := M.upG HB hg; have zbi := M.upG HB hg; replace HB := M.upS HB hb; clear hb hbox hg) | ((with_reducible refine gate_dst (N := 4) rfl ?_); ((refine gate_guard (by rfl) ?_; dsimp only)); refine M.bx 4 107 (#[.string (⟨#[]⟩ : ByteArray), .int .i64 0, .int .i64 0]) ?_; intro zbj hg w12 hbox hb; have zbk := Aside0.mk (hbox); have zbl := M.upG HB hg; have zbm := M.upG HB hg; replace HB := M.upS HB hb; have zbn := M.bkL zbg hg; have zbo := M.bkG zbg hg; replace zbg := M.bkB zbg hb; clear hb hbox hg; have zbx := zbn.out; have zby := zbo.out; obtain ⟨zbz, zbA, zbB⟩ := M.bc3 (w := w12) (a := .string a0_0) (b := .int .i64 a0_1) (c := .int .i64 a0_2) zbg.out; obtain ⟨zbC, zbD, zbE⟩ := M.bf3 zbg; obtain ⟨zbF, zbG, zbH⟩ := M.bc3 (w := w12) (a := .string (⟨#[]⟩ : ByteArray)) (b := .int .i64 0) (c := .int .i64 0) zbk.out; obtain ⟨zbI, zbJ, zbK⟩ := M.bf3 zbk))
    refine bodyPost_ret (results_ct rfl _ _ zbj 107 #[.string a0_0, .int .i64 a0_1, .int .i64 3] (0, 0) _ rfl (by refine M.fp (cs := #[.string a0_0, .int .i64 a0_1, .int .i64 0]) ?_ 2; refine M.fp (cs := #[.string a0_0, .int .i64 0, .int .i64 0]) ?_ 1; refine M.fp (cs := #[.string (⟨#[]⟩ : ByteArray), .int .i64 0, .int .i64 0]) ?_ 0; refine M.fr ?_ zbo; exact M.bk zbk) Tryd.underlying107 rfl (by kernel_rfl)) rfl ?_
    exact M.fin (M.up HB)
   ·rw [if_neg c10] at H
    have c10b0 := decide_eq_false c10
    clear c10
    by_cases c16 : 0 ≤ a0_1
    ·rw [if_pos c16] at H
     have c16b0 := eq_true c16
     have c16b1 := decide_eq_true c16
     clear c16
     by_cases c17 : a0_1 ≤ (wrap64 (a0_1 + a1))
     ·rw [if_pos c17] at H
      have c17b0 := eq_true c17
      have c17b1 := decide_eq_true c17
      by_cases c18 : (wrap64 (a0_1 + a1)) ≤ (a0_0.size : Int)
      ·rw [if_pos c18] at H
       have c18b0 := eq_true c18
       have c18b1 := decide_eq_true c18
       simp only [Option.some.injEq, Prod.mk.injEq] at H
       obtain ⟨rfl, rfl, rfl, rfl⟩ := H
       go_enter Tryd.func81, Tryd.ntmps81
       go_wp2_with (first | ((with_reducible refine gate_dst (N := 2) rfl ?_); ((refine gate_guard (by rfl) ?_; dsimp only)); refine M.bx 2 107 (#[.string a0_0, .int .i64 a0_1, .int .i64 a0_2]) ?_; intro zbf hg w19 hbox hb; have zbg := Aside0.mk (hbox); have zbh := M.upG HB hg; have zbi := M.upG HB hg; replace HB := M.upS HB hb; clear hb hbox hg) | ((with_reducible refine gate_dst (N := 4) rfl ?_); ((refine gate_guard (by rfl) ?_; dsimp only)); refine M.bx 4 107 (#[.string (⟨#[]⟩ : ByteArray), .int .i64 0, .int .i64 0]) ?_; intro zbj hg w20 hbox hb; have zbk := Aside0.mk (hbox); have zbl := M.upG HB hg; have zbm := M.upG HB hg; replace HB := M.upS HB hb; have zbn := M.bkL zbg hg; have zbo := M.bkG zbg hg; replace zbg := M.bkB zbg hb; clear hb hbox hg; have zbL := zbn.out; have zbM := zbo.out; obtain ⟨zbN, zbO, zbP⟩ := M.bc3 (w := w20) (a := .string a0_0) (b := .int .i64 a0_1) (c := .int .i64 a0_2) zbg.out; obtain ⟨zbQ, zbR, zbS⟩ := M.bf3 zbg; obtain ⟨zbT, zbU, zbV⟩ := M.bc3 (w := w20) (a := .string (⟨#[]⟩ : ByteArray)) (b := .int .i64 0) (c := .int .i64 0) zbk.out; obtain ⟨zbW, zbX, zbY⟩ := M.bf3 zbk))
       refine bodyPost_ret (results_ct rfl _ _ zbj 107 #[.string a0_0, .int .i64 (wrap64 (a0_1 + a1)), .int .i64 a0_2] (0, 0) _ rfl (by refine M.fp (cs := #[.string a0_0, .int .i64 (wrap64 (a0_1 + a1)), .int .i64 0]) ?_ 2; refine M.fp (cs := #[.string a0_0, .int .i64 0, .int .i64 0]) ?_ 1; refine M.fp (cs := #[.string (⟨#[]⟩ : ByteArray), .int .i64 0, .int .i64 0]) ?_ 0; refine M.fr ?_ zbo; exact M.bk zbk) Tryd.underlying107 rfl (by kernel_rfl)) rfl ?_
       exact M.fin (M.up HB)
      ·exact M.nf c18 H
     ·exact M.nf c17 H
    ·exact M.nf c16 H
 ·rw [if_neg c3] at H
  have c3b0 : (a0_2 == 0) = false := beq_eq_false_iff_ne.mpr c3
  have c3b1 : (a0_2 != 0) = true := bne_iff_ne.mpr c3
  simp only [Option.some.injEq, Prod.mk.injEq] at H
  obtain ⟨rfl, rfl, rfl, rfl⟩ := H
  go_enter Tryd.func81, Tryd.ntmps81
  go_wp2_with (first | ((with_reducible refine gate_dst (N := 2) rfl ?_); ((refine gate_guard (by rfl) ?_; dsimp only)); refine M.bx 2 107 (#[.string a0_0, .int .i64 a0_1, .int .i64 a0_2]) ?_; intro zbf hg w24 hbox hb; have zbg := Aside0.mk (hbox); have zbh := M.upG HB hg; have zbi := M.upG HB hg; replace HB := M.upS HB hb; clear hb hbox hg) | ((with_reducible refine gate_dst (N := 4) rfl ?_); ((refine gate_guard (by rfl) ?_; dsimp only)); refine M.bx 4 107 (#[.string (⟨#[]⟩ : ByteArray), .int .i64 0, .int .i64 0]) ?_; intro zbj hg w25 hbox hb; have zbk := Aside0.mk (hbox); have zbl := M.upG HB hg; have zbm := M.upG HB hg; replace HB := M.upS HB hb; have zbn := M.bkL zbg hg; have zbo := M.bkG zbg hg; replace zbg := M.bkB zbg hb; clear hb hbox hg; have zbZ := zbn.out; have zb0 := zbo.out; obtain ⟨zaF, zaG, zaH⟩ := M.bc3 (w := w25) (a := .string a0_0) (b := .int .i64 a0_1) (c := .int .i64 a0_2) zbg.out; obtain ⟨zaI, zaJ, zaK⟩ := M.bf3 zbg; obtain ⟨zb1, zb2, zb3⟩ := M.bc3 (w := w25) (a := .string (⟨#[]⟩ : ByteArray)) (b := .int .i64 0) (c := .int .i64 0) zbk.out; obtain ⟨zb4, zb5, zb6⟩ := M.bf3 zbk))
  refine bodyPost_ret (results_ct rfl _ _ zbj 107 #[.string a0_0, .int .i64 a0_1, .int .i64 a0_2] (0, 0) _ rfl (by refine M.fp (cs := #[.string a0_0, .int .i64 a0_1, .int .i64 0]) ?_ 2; refine M.fp (cs := #[.string a0_0, .int .i64 0, .int .i64 0]) ?_ 1; refine M.fp (cs := #[.string (⟨#[]⟩ : ByteArray), .int .i64 0, .int .i64 0]) ?_ 0; exact M.bk zbk) Tryd.underlying107 rfl (by kernel_rfl)) rfl ?_
  exact M.fin (M.up HB)
def pleachref04_fix.f (a0_0 : ByteArray) (a0_1 : Int) (a0_2 : Int) (a1 : Int) : Option (ByteArray × Int × Int × ByteArray) :=
  if M.sok a0_0 a0_1 ∧ -9223372036854775808 ≤ a1 ∧ a1 ≤ 9223372036854775807 then some (a0_0, (M.xfix a0_0 a0_1 a0_2 a1).2.1, (M.xfix a0_0 a0_1 a0_2 a1).2.2, (M.xfix a0_0 a0_1 a0_2 a1).1) else none
theorem pleachref04_fix.ev (s : ByteArray) (p er n : Int) (r : ByteArray × Int × Int × ByteArray) (h : pleachref04_fix.f s p er n = some r) : pleachref04_fix_p.f s p er n = some r := by
 unfold pleachref04_fix.f at h
 split at h
 case isFalse => cases h
 case isTrue hh =>
  obtain ⟨hs, hn, hn'⟩ := hh
  unfold pleachref04_fix_p.f
  rw [← h]
  unfold M.xfix
  by_cases he : er = 0
  ·subst he
   have hc := M.fix_code s hs hn hn'
   simp only [if_true] at hc ⊢
   generalize M.sfix s p n = q at hc ⊢
   revert hc
   (repeat' split) <;> intro hc <;> first | (cases hc; rfl) | (cases hc; done)
  ·simp only [if_neg he]; rfl
theorem pleachref04_fix.calls (a0_0 : ByteArray) (a0_1 : Int) (a0_2 : Int) (a1 : Int) (r1 : ByteArray) (r2 : Int) (r3 : Int) (r4 : ByteArray) (w : World) (h : pleachref04_fix.f a0_0 a0_1 a0_2 a1 = some (r1, r2, r3, r4)) :
    Calls Tryd.prog 81 #[.agg #[.string a0_0, .int .i64 a0_1, .int .i64 a0_2], .int .i64 a1] w fun e w' => e = .returned (.tuple #[.agg #[.string r1, .int .i64 r2, .int .i64 r3], .string r4]) ∧ Below w.heap.size w w' := by
 exact pleachref04_fix_p.calls (w := w) (h := pleachref04_fix.ev _ _ _ _ _ h)
def pleachref04_Byte_p.f (a0_0 : ByteArray) (a0_1 : Int) (a0_2 : Int) : Option (ByteArray × Int × Int × Int) := (pleachref04_fix.f a0_0 a0_1 a0_2 1).bind fun bt319 => (if bt319.2.2.1 = 0 then (if 0 < (bt319.2.2.2.size : Int) then (some (bt319.1, bt319.2.1, bt319.2.2.1, wrap64 (bt bt319.2.2.2 0))) else (none)) else (some (bt319.1, bt319.2.1, bt319.2.2.1, 0)))
set_option maxHeartbeats 8000000 in
set_option maxRecDepth 100000 in
theorem pleachref04_Byte_p.calls (a0_0 : ByteArray) (a0_1 : Int) (a0_2 : Int) (r1 : ByteArray) (r2 : Int) (r3 : Int) (r4 : Int) (w : World) (h : pleachref04_Byte_p.f a0_0 a0_1 a0_2 = some (r1, r2, r3, r4)) :
    Calls Tryd.prog 54 #[.agg #[.string a0_0, .int .i64 a0_1, .int .i64 a0_2]] w fun e w' => e = .returned (.tuple #[.agg #[.string r1, .int .i64 r2, .int .i64 r3], .int .i64 r4]) ∧ Below w.heap.size w w' := by
 have hu107 := Tryd.underlying107
 have HB := Aside0.mk (Below.refl w.heap.size w)
 have H := h; unfold pleachref04_Byte_p.f at H
 clear h
 replace H := Option.bind_eq_some_iff.mp H
 obtain ⟨⟨t319, t320, t321, t322⟩, A20, H⟩ := H
 try simp only at H
 have A2 := Aside0.mk A20
 clear A20
 by_cases c3 : t321 = 0
 ·rw [if_pos c3] at H
  have c3b0 : (t321 == 0) = true := beq_iff_eq.mpr c3
  have c3b1 : (t321 != 0) = false := bne_eq_false_iff_eq.mpr c3
  clear c3
  by_cases c4 : 0 < (t322.size : Int)
  ·rw [if_pos c4] at H
   have c4b0 := decide_eq_true c4
   have c4b1 : decide (0 < t322.size) = true := decide_eq_true (by omega)
   clear c4
   simp only [Option.some.injEq, Prod.mk.injEq] at H
   obtain ⟨rfl, rfl, rfl, rfl⟩ := H
   go_enter Tryd.func54, Tryd.ntmps54
   try go_wp2_with (first | ((with_reducible refine gate_dst (N := 1) rfl ?_); refine M.bx 1 107 (#[.string a0_0, .int .i64 a0_1, .int .i64 a0_2]) ?_; intro zb7 hg w6 hbox hb; have zb8 := Aside0.mk (hbox); have zb9 := M.upG HB hg; have zca := M.upG HB hg; replace HB := M.upS HB hb; clear hb hbox hg) | ((with_reducible refine gate_dst (N := 2) rfl ?_); refine M.bx 2 107 (#[.string (⟨#[]⟩ : ByteArray), .int .i64 0, .int .i64 0]) ?_; intro zcb hg w7 hbox hb; have zcc := Aside0.mk (hbox); have zcd := M.upG HB hg; have zce := M.upG HB hg; replace HB := M.upS HB hb; have zcf := M.bkL zb8 hg; have zcg := M.bkG zb8 hg; replace zb8 := M.bkB zb8 hb; clear hb hbox hg; have zch := zcf.out; have zci := zcg.out; obtain ⟨zbr, zbs, zbt⟩ := M.bc3 (w := w7) (a := .string a0_0) (b := .int .i64 a0_1) (c := .int .i64 a0_2) zb8.out; obtain ⟨zbu, zbv, zbw⟩ := M.bf3 zb8) | ((with_reducible refine gate_callee (f := 81) rfl ?_); refine M.goes (some 7) Tryd.func81 #[.agg #[.string a0_0, .int .i64 a0_1, .int .i64 a0_2], .int .i64 1] rfl ?_; (with_reducible refine (pleachref04_fix.calls a0_0 a0_1 a0_2 1 t319 t320 t321 t322 _ A2.out).mono ?_); rintro e w10 ⟨rfl, hb⟩; refine ⟨_, rfl, ?_⟩; replace zb8 := M.bkB zb8 hb; replace zcc := M.bkB zcc hb; replace HB := M.upS HB hb; clear hb; obtain ⟨zcj, zck, zcl⟩ := M.bc3 (w := w10) (a := .string a0_0) (b := .int .i64 a0_1) (c := .int .i64 a0_2) zb8.out; obtain ⟨zcm, zcn, zco⟩ := M.bf3 zb8))
   have n0_ : Aside0 ((((w10.setCell ⟨zb7, 0, none⟩ (.string t319)).setCell ⟨zb7, 1, none⟩ (.int .i64 t320)).setCell ⟨zb7, 2, none⟩ (.int .i64 t321)).heap[zb7]? = some (.cells #[.string t319, .int .i64 t320, .int .i64 t321] 107 (0, 0))) := ⟨by refine M.fp (cs := #[.string t319, .int .i64 t320, .int .i64 a0_2]) ?_ 2; refine M.fp (cs := #[.string t319, .int .i64 a0_1, .int .i64 a0_2]) ?_ 1; refine M.fp (cs := #[.string a0_0, .int .i64 a0_1, .int .i64 a0_2]) ?_ 0; exact M.bk zb8⟩
   have n1_ : Aside0 ((((w10.setCell ⟨zb7, 0, none⟩ (.string t319)).setCell ⟨zb7, 1, none⟩ (.int .i64 t320)).setCell ⟨zb7, 2, none⟩ (.int .i64 t321)).heap[zcb]? = some (.cells #[.string (⟨#[]⟩ : ByteArray), .int .i64 0, .int .i64 0] 107 (0, 0))) := ⟨by refine M.fr ?_ zcg; refine M.fr ?_ zcg; refine M.fr ?_ zcg; exact M.bk zcc⟩
   have n2_ : Aside0 (Below w.heap.size w (((w10.setCell ⟨zb7, 0, none⟩ (.string t319)).setCell ⟨zb7, 1, none⟩ (.int .i64 t320)).setCell ⟨zb7, 2, none⟩ (.int .i64 t321))) := ⟨M.up HB⟩
   clear zb8
   clear zcc
   clear HB
   generalize (((w10.setCell ⟨zb7, 0, none⟩ (.string t319)).setCell ⟨zb7, 1, none⟩ (.int .i64 t320)).setCell ⟨zb7, 2, none⟩ (.int .i64 t321)) = w12 at n0_ n1_ n2_ ⊢
   have zb8 := n0_
   have zcc := n1_
   have HB := n2_
   clear n0_ n1_ n2_
   replace zb8 := Aside0.mk (blk_drew zb8.out); replace zcc := Aside0.mk (blk_drew zcc.out); replace HB := Aside0.mk (below_drew1 HB.out)
   have p5 : 0 ≤ (0 : Int) := (by omega)
   have q5 : 0 < t322.size := (by have : (0 : Int) < (t322.size : Int) := M.dt; omega)
   have hx5 : ∀ h : 0 < t322.size, ((t322[0]'h).toNat : Int) = bt t322 0 := bt_at t322 0
   clear p5
   have qi5 : (0 < (t322.size : Int)) = True := eq_true (M.dt)
   replace q5 := eq_true q5
   refine start_ (n := 6) (S := fun w' => w'.cell? ⟨zb7, 0, none⟩ = some (.string t319) ∧ w'.cell? ⟨zb7, 1, none⟩ = some (.int .i64 t320) ∧ w'.cell? ⟨zb7, 2, none⟩ = some (.int .i64 t321)) (ds := []) #[false, false, false, false, false, false] (by kernel_rfl) rfl rfl ⟨(blk_cell zb8.out 0).trans rfl, (blk_cell zb8.out 1).trans rfl, (blk_cell zb8.out 2).trans rfl⟩ (fun hHeld => ?_)
   generalize w12.drew = w13 at zb8 zcc HB hHeld ⊢
   refine pure_ (i := 1) (N := some 15) (v := ?_) (a' := ?_) #[false, true, false, false, false, false] rfl rfl (by kernel_rfl) (fun _ _ _ h => h) (Or.inl ⟨by rfl, ?_⟩) ?_ ?_
   rotate_left
   ·intro w'
    go_simp
    with_reducible rfl
   rotate_left
   ·simp only [Act.put, List.setIfInBounds_toArray, List.set_cons_zero, List.set_cons_succ, i64_w, i32_w]
    rfl
   refine take_ (i := 0) (N := some 14) (v := ?_) (a' := ?_) #[true, true, false, false, false, false] rfl rfl (by kernel_rfl) (fun _ _ _ h => h) (Or.inl ⟨by rfl, ?_⟩) hHeld ?_ ?_
   rotate_left
   ·rintro w' ⟨s0, s1, s2⟩
    go_simp
    with_reducible rfl
   rotate_left
   ·simp only [Act.put, List.setIfInBounds_toArray, List.set_cons_zero, List.set_cons_succ, i64_w, i32_w]
    rfl
   refine take_ (i := 2) (N := some 16) (v := ?_) (a' := ?_) #[true, true, true, false, false, false] rfl rfl (by kernel_rfl) (fun _ _ _ h => h) (Or.inl ⟨by rfl, ?_⟩) hHeld ?_ ?_
   rotate_left
   ·rintro w' ⟨s0, s1, s2⟩
    go_simp
    with_reducible rfl
   rotate_left
   ·simp only [Act.put, List.setIfInBounds_toArray, List.set_cons_zero, List.set_cons_succ, i64_w, i32_w]
    rfl
   refine pure_ (i := 3) (N := some 17) (v := ?_) (a' := ?_) #[true, true, true, true, false, false] rfl rfl (by kernel_rfl) (fun _ _ _ h => h) (Or.inl ⟨by rfl, ?_⟩) ?_ ?_
   rotate_left
   ·intro w'
    go_simp
    with_reducible rfl
   rotate_left
   ·simp only [Act.put, List.setIfInBounds_toArray, List.set_cons_zero, List.set_cons_succ, i64_w, i32_w]
    rfl
   refine one_ (i := 4) (N := none) #[true, true, true, true, true, false] rfl rfl (by kernel_rfl) (by decide) (fun K hK => ?_)
   have hs14 : w13.cell? ⟨zcb, 0, none⟩ = some (.string (⟨#[]⟩ : ByteArray)) := (blk_cell zcc.out 0).trans rfl
   have hfs14 := blk_frozen zcc.out 0
   have hns14_0 := zcf.out
   have hms14_0 := zcg.out
   have hs15 : w13.cell? ⟨zcb, 1, none⟩ = some (.int .i64 0) := (blk_cell zcc.out 1).trans rfl
   have hfs15 := blk_frozen zcc.out 1
   have hns15_0 := zcf.out
   have hms15_0 := zcg.out
   have hs16 : w13.cell? ⟨zcb, 2, none⟩ = some (.int .i64 0) := (blk_cell zcc.out 2).trans rfl
   have hfs16 := blk_frozen zcc.out 2
   have hns16_0 := zcf.out
   have hms16_0 := zcg.out
   refine skip_ (w1 := ?_) (by rfl) rfl ?_ ?_
   rotate_left
   ·go_simp
    rfl
   refine hK.out _ _ ⟨((cell_far (p := ⟨zcb, _, none⟩) zcf.out _).trans (((cell_far (p := ⟨zcb, _, none⟩) zcf.out _).trans (((cell_far (p := ⟨zcb, _, none⟩) zcf.out _).trans (hHeld.1)))))), ((cell_far (p := ⟨zcb, _, none⟩) zcf.out _).trans (((cell_far (p := ⟨zcb, _, none⟩) zcf.out _).trans (((cell_far (p := ⟨zcb, _, none⟩) zcf.out _).trans (hHeld.2.1)))))), ((cell_far (p := ⟨zcb, _, none⟩) zcf.out _).trans (((cell_far (p := ⟨zcb, _, none⟩) zcf.out _).trans (((cell_far (p := ⟨zcb, _, none⟩) zcf.out _).trans (hHeld.2.2))))))⟩ (fun hHeld => ?_)
   clear hK K
   refine pure_ (i := 5) (N := some 3) (v := ?_) (a' := ?_) #[true, true, true, true, true, true] rfl rfl (by kernel_rfl) (fun _ _ _ h => h) (Or.inl ⟨by rfl, ?_⟩) ?_ ?_
   rotate_left
   ·intro w'
    go_simp
    with_reducible rfl
   rotate_left
   ·simp only [Act.put, List.setIfInBounds_toArray, List.set_cons_zero, List.set_cons_succ, i64_w, i32_w]
    rfl
   refine done_ (by kernel_rfl) ?_
   try go_wp2
   refine bodyPost_ret (results_ct rfl _ _ zcb 107 #[.string t319, .int .i64 t320, .int .i64 t321] (0, 0) _ rfl (by refine M.fp (cs := #[.string t319, .int .i64 t320, .int .i64 0]) ?_ 2; refine M.fp (cs := #[.string t319, .int .i64 0, .int .i64 0]) ?_ 1; refine M.fp (cs := #[.string (⟨#[]⟩ : ByteArray), .int .i64 0, .int .i64 0]) ?_ 0; exact M.bk zcc) Tryd.underlying107 rfl (by kernel_rfl)) rfl ?_
   exact M.fin (M.up HB)
  ·exact M.nf c4 H
 ·rw [if_neg c3] at H
  have c3b0 : (t321 == 0) = false := beq_eq_false_iff_ne.mpr c3
  have c3b1 : (t321 != 0) = true := bne_iff_ne.mpr c3
  simp only [Option.some.injEq, Prod.mk.injEq] at H
  obtain ⟨rfl, rfl, rfl, rfl⟩ := H
  go_enter Tryd.func54, Tryd.ntmps54
  go_wp2_with (first | ((with_reducible refine gate_dst (N := 1) rfl ?_); refine M.bx 1 107 (#[.string a0_0, .int .i64 a0_1, .int .i64 a0_2]) ?_; intro zb7 hg w17 hbox hb; have zb8 := Aside0.mk (hbox); have zb9 := M.upG HB hg; have zca := M.upG HB hg; replace HB := M.upS HB hb; clear hb hbox hg) | ((with_reducible refine gate_dst (N := 2) rfl ?_); refine M.bx 2 107 (#[.string (⟨#[]⟩ : ByteArray), .int .i64 0, .int .i64 0]) ?_; intro zcb hg w18 hbox hb; have zcc := Aside0.mk (hbox); have zcd := M.upG HB hg; have zce := M.upG HB hg; replace HB := M.upS HB hb; have zcf := M.bkL zb8 hg; have zcg := M.bkG zb8 hg; replace zb8 := M.bkB zb8 hb; clear hb hbox hg; have zcp := zcf.out; have zcq := zcg.out; obtain ⟨zcr, zcs, zct⟩ := M.bc3 (w := w18) (a := .string a0_0) (b := .int .i64 a0_1) (c := .int .i64 a0_2) zb8.out; obtain ⟨zcu, zcv, zcw⟩ := M.bf3 zb8) | ((with_reducible refine gate_callee (f := 81) rfl ?_); refine M.goes (some 7) Tryd.func81 #[.agg #[.string a0_0, .int .i64 a0_1, .int .i64 a0_2], .int .i64 1] rfl ?_; (with_reducible refine (pleachref04_fix.calls a0_0 a0_1 a0_2 1 t319 t320 t321 t322 _ A2.out).mono ?_); rintro e w21 ⟨rfl, hb⟩; refine ⟨_, rfl, ?_⟩; replace zb8 := M.bkB zb8 hb; replace zcc := M.bkB zcc hb; replace HB := M.upS HB hb; clear hb; obtain ⟨zbN, zbO, zbP⟩ := M.bc3 (w := w21) (a := .string a0_0) (b := .int .i64 a0_1) (c := .int .i64 a0_2) zb8.out; obtain ⟨zbQ, zbR, zbS⟩ := M.bf3 zb8; obtain ⟨zbT, zbU, zbV⟩ := M.bc3 (w := w21) (a := .string (⟨#[]⟩ : ByteArray)) (b := .int .i64 0) (c := .int .i64 0) zcc.out; obtain ⟨zbW, zbX, zbY⟩ := M.bf3 zcc))
  refine bodyPost_ret (results_ct rfl _ _ zcb 107 #[.string t319, .int .i64 t320, .int .i64 t321] (0, 0) _ rfl (by refine M.fp (cs := #[.string t319, .int .i64 t320, .int .i64 0]) ?_ 2; refine M.fp (cs := #[.string t319, .int .i64 0, .int .i64 0]) ?_ 1; refine M.fp (cs := #[.string (⟨#[]⟩ : ByteArray), .int .i64 0, .int .i64 0]) ?_ 0; refine M.fr ?_ zcg; refine M.fr ?_ zcg; refine M.fr ?_ zcg; exact M.bk zcc) Tryd.underlying107 rfl (by kernel_rfl)) rfl ?_
  exact M.fin (M.up HB)
def pleachref04_Byte.f (a0_0 : ByteArray) (a0_1 : Int) (a0_2 : Int) : Option (ByteArray × Int × Int × Int) :=
  if M.sok a0_0 a0_1 then some (a0_0, (M.xbyte a0_0 a0_1 a0_2).2.1, (M.xbyte a0_0 a0_1 a0_2).2.2, (M.xbyte a0_0 a0_1 a0_2).1) else none
theorem pleachref04_Byte.ev (s : ByteArray) (p er : Int) (r : ByteArray × Int × Int × Int) (h : pleachref04_Byte.f s p er = some r) : pleachref04_Byte_p.f s p er = some r := by
 unfold pleachref04_Byte.f at h
 split at h
 case isFalse => cases h
 case isTrue hs =>
  unfold pleachref04_Byte_p.f pleachref04_fix.f
  rw [if_pos ⟨hs, by decide, by decide⟩, Option.bind_some, ← h]
  have hb := M.byte_of s hs
  unfold M.xfix M.xbyte
  by_cases he : er = 0
  ·simp only [if_pos he]
   by_cases hp : p < s.size
   ·obtain ⟨e1, e2, e3⟩ := hb hp
    unfold M.sfix
    have c2 : ¬ ((1 : Int) < 0 ∨ (s.size : Int) - p < 1) := by omega
    rw [if_neg c2, if_pos hp]
    simp only [if_true]
    rw [if_pos e2, e3]
   ·unfold M.sfix
    have c2 : (1 : Int) < 0 ∨ (s.size : Int) - p < 1 := by omega
    rw [if_pos c2, if_neg hp]
    rfl
  ·simp only [if_neg he]
theorem pleachref04_Byte.calls (a0_0 : ByteArray) (a0_1 : Int) (a0_2 : Int) (r1 : ByteArray) (r2 : Int) (r3 : Int) (r4 : Int) (w : World) (h : pleachref04_Byte.f a0_0 a0_1 a0_2 = some (r1, r2, r3, r4)) :
    Calls Tryd.prog 54 #[.agg #[.string a0_0, .int .i64 a0_1, .int .i64 a0_2]] w fun e w' => e = .returned (.tuple #[.agg #[.string r1, .int .i64 r2, .int .i64 r3], .int .i64 r4]) ∧ Below w.heap.size w w' := by
 exact pleachref04_Byte_p.calls (w := w) (h := pleachref04_Byte.ev _ _ _ _ h)
end Go.Proofs.YtopllfdjlbnmfaaDoor.ETreeChildren
