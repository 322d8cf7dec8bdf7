-- Laid by this session's own program (wip/tools/fold.py): this session's texts, cut to what the claim names and put together; Lean checks it.
import Derived.Test.YtkjbhgolillidaaDoorVMarkNames1
import Derived.Test.YtkjbhgolillidaaDoorVMarkNames10
import Derived.Test.YtkjbhgolillidaaDoorVMarkNames11
import Derived.Test.YtkjbhgolillidaaDoorXMarkNames1
namespace Go.Proofs.YtkjbhgolillidaaDoor.EMarkNames
open Go.RowKit Go.Proofs.YtkjbhgolillidaaDoorW.PrintWords Go.Proofs.YtkjbhgolillidaaDoorW.PrintLast Go.Proofs.YtkjbhgolillidaaDoorW.PrintMore
attribute [local go_sem] M.run_leq M.run_gtr M.run_geq max2_int min2_int max_two min_two max_three min_three max_four min_four
set_option linter.unusedVariables false
set_option linter.unusedSimpArgs false
def pleachref04_PutNum_p.j0 : Nat → Int → Option (ByteArray)
  | 0, _ => none
  | k + 1, x0 => (pleachref01_Put.f (IntKind.u64.wrap (x0))).bind fun t344 => (some t344)
def pleachref04_PutNum_p.f (k : Nat) (a0 : Int) : Option (ByteArray) := if a0 < 0 then (pleachref04_PutNum_p.j0 k 0) else (pleachref04_PutNum_p.j0 k a0)
theorem pleachref04_PutNum_p.mono_l : ∀ k, (∀ y0, LeO (pleachref04_PutNum_p.j0 k y0) (pleachref04_PutNum_p.j0 (k + 1) y0))
  | 0 => fun _ r h => by simp [pleachref04_PutNum_p.j0] at h
  | k + 1 => by
    have ih0 := pleachref04_PutNum_p.mono_l k
    · intro y0
      unfold pleachref04_PutNum_p.j0
      repeat' first
      | (with_reducible exact ih0 _)
      | (with_reducible exact LeO.refl _)
      | (with_reducible exact LeO.none _)
      | (with_reducible refine LeO.ite ?_ ?_)
      | (with_reducible refine LeO.bind ?_ (fun _ => ?_))
      | exact ih0 _
      | exact LeO.none _
      | refine LeO.ite ?_ ?_
      | refine LeO.bind ?_ (fun _ => ?_)
theorem pleachref04_PutNum_p.mono : ∀ a0 k, LeO (pleachref04_PutNum_p.f k a0) (pleachref04_PutNum_p.f (k + 1) a0) := by
  intro a0 k
  have ih0 := pleachref04_PutNum_p.mono_l k
  unfold pleachref04_PutNum_p.f
  repeat' first
      | (with_reducible exact ih0 _)
      | (with_reducible exact LeO.refl _)
      | (with_reducible exact LeO.none _)
      | (with_reducible refine LeO.ite ?_ ?_)
      | (with_reducible refine LeO.bind ?_ (fun _ => ?_))
      | exact ih0 _
      | exact LeO.none _
      | refine LeO.ite ?_ ?_
      | refine LeO.bind ?_ (fun _ => ?_)
set_option maxHeartbeats 8000000 in
set_option maxRecDepth 100000 in
theorem pleachref04_PutNum_p.calls (k : Nat) (a0 : Int) (r : ByteArray) (w : World) (h : pleachref04_PutNum_p.f k a0 = some r) :
    Calls Tryd.prog 53 #[.int .i64 a0] w fun e w' => e = .returned (.string r) ∧ Below w.heap.size w w' := by
 have HB := Aside0.mk (Below.refl w.heap.size w)
 have H : (if a0 < 0 then (pleachref04_PutNum_p.j0 k 0) else (pleachref04_PutNum_p.j0 k a0)) = some r := h
 clear h
 have HC2 := Aside0.mk H
 clear H
 go_enter Tryd.func53, Tryd.ntmps53
 go_upto_if 4 with (fail)
 go_cut [0] (fun v0 wc => ∃ (kq : Nat) (x0_1 : Int), v0 = .int .i64 x0_1 ∧ Aside0 (pleachref04_PutNum_p.j0 kq x0_1 = some r) ∧ Aside0 (kq ≤ k) ∧ Aside0 (Below w.heap.size w wc))
 case first =>
  have H := HC2.out
  clear HC2
  by_cases c3 : a0 < 0
  ·rw [if_pos c3] at H
   have c3b0 := decide_eq_true c3
   clear c3
   (first | rw [c3b0] | (simp only [i64_w, i32_w]; rw [c3b0]) | skip)
   have H' := Aside0.mk H
   clear H
   go_wp2
   go_meet
   case rel => exact ⟨_, (0), M.eqv, H', ⟨by first | omega | exact Nat.le_refl _⟩, ⟨M.up HB⟩⟩
  ·rw [if_neg c3] at H
   have c3b0 := decide_eq_false c3
   clear c3
   (first | rw [c3b0] | (simp only [i64_w, i32_w]; rw [c3b0]) | skip)
   have H' := Aside0.mk H
   clear H
   go_wp2
   go_meet
   case rel => exact ⟨_, (a0), M.eqv, H', ⟨by first | omega | exact Nat.le_refl _⟩, ⟨M.up HB⟩⟩
 case rest =>
  clear HC2
  (try clear p2); (try clear c3); (try clear c3b0)
  obtain ⟨kq, x0_1, rfl, HA, HJ1, HB⟩ := hcut
  cases kq with
  | zero => exact absurd HA.out (by simp [pleachref04_PutNum_p.j0])
  | succ kj1 =>
   have H := HA.out
   clear HA
   simp only [pleachref04_PutNum_p.j0] at H
   replace H := Option.bind_eq_some_iff.mp H
   obtain ⟨t344, A40, H⟩ := H
   replace H : (some t344) = some r := H
   have A4 := Aside0.mk A40
   clear A40
   obtain rfl := Option.some.inj H
   go_wp2_with (first | ((with_reducible refine gate_callee (f := 62) rfl ?_); refine M.goes (some 7) Tryd.func62 #[.int .u64 (IntKind.u64.wrap (x0_1))] rfl ?_; (with_reducible refine (pleachref01_Put.calls (IntKind.u64.wrap (x0_1)) t344 _ A4.out).mono ?_); rintro e w5 ⟨rfl, hb⟩; refine ⟨_, rfl, ?_⟩; replace HB := M.upS HB hb; (try clear hb)))
   go_ret
   exact M.fin (M.up HB)
def pleachref04_PutNum.f (a0 : Int) : Option ByteArray := if a0 ≤ 9223372036854775807 then some (M.sb (M.vb a0.toNat)) else none
theorem pleachref04_PutNum.ev (a0 : Int) (r : ByteArray) (h : pleachref04_PutNum.f a0 = some r) : ∃ k, pleachref04_PutNum_p.f k a0 = some r := by
 unfold pleachref04_PutNum.f at h
 split at h
 ·rename_i hh
  have key : ∀ n : Nat, n ≤ 9223372036854775807 → pleachref04_PutNum_p.j0 1 (n : Int) = some (M.sb (M.vb n)) := by
   intro n hn
   simp only [pleachref04_PutNum_p.j0, pleachref01_Put.f]
   rw [M.u64_id (by omega) (by omega), if_pos ⟨by omega, by omega⟩, Int.toNat_natCast]; rfl
  refine ⟨1, ?_⟩
  unfold pleachref04_PutNum_p.f
  by_cases h0 : a0 < 0
  ·rw [if_pos h0]
   have := key 0 (by decide)
   rw [show a0.toNat = 0 from by omega] at h
   exact this.trans h
  ·rw [if_neg h0]
   have := key a0.toNat (by omega)
   rw [show ((a0.toNat : Nat) : Int) = a0 from by omega] at this
   exact this.trans h
 ·cases h
theorem pleachref04_PutNum.calls (a0 : Int) (r : ByteArray) (w : World) (h : pleachref04_PutNum.f a0 = some r) :
    Calls Tryd.prog 53 #[.int .i64 a0] w fun e w' => e = .returned (.string r) ∧ Below w.heap.size w w' := by
 obtain ⟨k, hk⟩ := pleachref04_PutNum.ev _ _ h
 exact pleachref04_PutNum_p.calls (k := k) (w := w) (h := hk)
def pleachref04_PutText.f (a0 : ByteArray) : Option ByteArray := if a0.size ≤ 9223372036854775797 then some (M.sb (M.vb a0.size) ++ a0) else none
theorem pleachref04_PutText.go (a0 p : ByteArray) (w : World) (h0 : a0.size ≤ 9223372036854775797) (hp : pleachref01_Put.f (a0.size : Int) = some p) (hs : p.size + a0.size ≤ 9223372036854775807) :
    Calls Tryd.prog 54 #[.string a0] w fun e w' => e = .returned (.string (p ++ a0)) ∧ Below w.heap.size w w' := by
 have HP := Aside0.mk hp
 clear hp
 have c3b0 := eq_true hs
 have c3b1 : decide (p.size + a0.size ≤ 9223372036854775807) = true := decide_eq_true hs
 have c3b2 : (9223372036854775807 < p.size + a0.size) = False := eq_false (Nat.not_lt.2 hs)
 go_enter Tryd.func54, Tryd.ntmps54
 go_wp2_with (go_at_call 62; refine (pleachref01_Put.calls (a0.size : Int) p _ HP.out).mono ?_; rintro e w1 ⟨rfl, hb⟩)
 go_ret
 exact ⟨rfl, hb⟩
theorem pleachref04_PutText.calls (a0 : ByteArray) (r : ByteArray) (w : World) (h : pleachref04_PutText.f a0 = some r) :
    Calls Tryd.prog 54 #[.string a0] w fun e w' => e = .returned (.string r) ∧ Below w.heap.size w w' := by
 unfold pleachref04_PutText.f at h
 split at h
 ·rename_i hh
  obtain rfl := Option.some.inj h
  have hl := M.vb_le a0.size (by omega)
  refine pleachref04_PutText.go a0 _ w hh ?_ (by rw [M.size_sb]; omega)
  unfold pleachref01_Put.f
  rw [if_pos ⟨by omega, by omega⟩, Int.toNat_natCast]
 ·cases h
mutual
def pleachref19_Put.j0 : Nat → ByteArray → Int → List (S43) → List Int → Option (ByteArray)
  | 0, _, _, _, _ => none
  | k + 1, x3, zaa, zab, zac => (pleachref04_PutNum.f (zab.length : Int)).bind fun t348 => (if x3.size + t348.size ≤ 9223372036854775807 then (pleachref19_Put.l0 k (x3 ++ t348) 0 zaa zab zac) else (none))
def pleachref19_Put.l0 : Nat → ByteArray → Int → Int → List (S43) → List Int → Option (ByteArray)
  | 0, _, _, _, _, _ => none
  | k + 1, x3, x4, zaa, zab, zac => if x4 < (zab.length : Int) then (if 0 ≤ x4 then ((pleachref04_PutText.f ((rd_T43 zab x4).f0)).bind fun t350 => (if x3.size + t350.size ≤ 9223372036854775807 then (if zaa > 0 then (if (x3 ++ t350).size + ((rd_T43 zab x4).f1).size ≤ 9223372036854775807 then (if x4 < (zac.length : Int) then ((pleachref04_PutNum.f (rd zac x4)).bind fun t353 => (if ((x3 ++ t350) ++ ((rd_T43 zab x4).f1)).size + t353.size ≤ 9223372036854775807 then (pleachref19_Put.l0 k (((x3 ++ t350) ++ ((rd_T43 zab x4).f1)) ++ t353) (wrap64 (x4 + 1)) zaa zab zac) else (none))) else (none)) else (none)) else ((pleachref04_PutText.f ((rd_T43 zab x4).f1)).bind fun t355 => (if (x3 ++ t350).size + t355.size ≤ 9223372036854775807 then (pleachref19_Put.l0 k ((x3 ++ t350) ++ t355) (wrap64 (x4 + 1)) zaa zab zac) else (none)))) else (none))) else (none)) else (some x3)
end
def pleachref19_Put.f (k : Nat) (a0_0 : Int) (l0_1 : List (S43)) (l0_2 : List Int) : Option (ByteArray) := (pleachref19_Wrong.f k a0_0 l0_1 l0_2).bind fun t346 => (if t346 = 0 then (if a0_0 > 0 then ((pleachref04_PutNum.f a0_0).bind fun t347 => (if 1 + t347.size ≤ 9223372036854775807 then (pleachref19_Put.j0 k ((⟨#[73]⟩ : ByteArray) ++ t347) a0_0 l0_1 l0_2) else (none))) else (pleachref19_Put.j0 k (⟨#[76]⟩ : ByteArray) a0_0 l0_1 l0_2)) else (some (⟨#[]⟩ : ByteArray)))
theorem pleachref19_Put.mono_l : ∀ k, (∀ y0 y1 y2 y3, LeO (pleachref19_Put.j0 k y0 y1 y2 y3) (pleachref19_Put.j0 (k + 1) y0 y1 y2 y3)) ∧ (∀ y0 y1 y2 y3 y4, LeO (pleachref19_Put.l0 k y0 y1 y2 y3 y4) (pleachref19_Put.l0 (k + 1) y0 y1 y2 y3 y4))
  | 0 => ⟨fun _ _ _ _ r h => by simp [pleachref19_Put.j0] at h, fun _ _ _ _ _ r h => by simp [pleachref19_Put.l0] at h⟩
  | k + 1 => by
    obtain ⟨ih0, ih1⟩ := pleachref19_Put.mono_l k
    refine ⟨?_, ?_⟩
    · intro y0 y1 y2 y3
      unfold pleachref19_Put.j0
      repeat' first
      | (with_reducible exact ih0 _ _ _ _)
      | (with_reducible exact ih1 _ _ _ _ _)
      | (with_reducible exact pleachref19_Wrong.mono _ _ _ _)
      | (with_reducible exact LeO.refl _)
      | (with_reducible exact LeO.none _)
      | (with_reducible refine LeO.ite ?_ ?_)
      | (with_reducible refine LeO.bind ?_ (fun _ => ?_))
      | exact ih0 _ _ _ _
      | exact ih1 _ _ _ _ _
      | exact pleachref19_Wrong.mono _ _ _ _
      | exact LeO.none _
      | refine LeO.ite ?_ ?_
      | refine LeO.bind ?_ (fun _ => ?_)
    · intro y0 y1 y2 y3 y4
      unfold pleachref19_Put.l0
      repeat' first
      | (with_reducible exact ih0 _ _ _ _)
      | (with_reducible exact ih1 _ _ _ _ _)
      | (with_reducible exact pleachref19_Wrong.mono _ _ _ _)
      | (with_reducible exact LeO.refl _)
      | (with_reducible exact LeO.none _)
      | (with_reducible refine LeO.ite ?_ ?_)
      | (with_reducible refine LeO.bind ?_ (fun _ => ?_))
      | exact ih0 _ _ _ _
      | exact ih1 _ _ _ _ _
      | exact pleachref19_Wrong.mono _ _ _ _
      | exact LeO.none _
      | refine LeO.ite ?_ ?_
      | refine LeO.bind ?_ (fun _ => ?_)
theorem pleachref19_Put.mono : ∀ a0 a1 a2 k, LeO (pleachref19_Put.f k a0 a1 a2) (pleachref19_Put.f (k + 1) a0 a1 a2) := by
  intro a0 a1 a2 k
  obtain ⟨ih0, ih1⟩ := pleachref19_Put.mono_l k
  unfold pleachref19_Put.f
  repeat' first
      | (with_reducible exact ih0 _ _ _ _)
      | (with_reducible exact ih1 _ _ _ _ _)
      | (with_reducible exact pleachref19_Wrong.mono _ _ _ _)
      | (with_reducible exact LeO.refl _)
      | (with_reducible exact LeO.none _)
      | (with_reducible refine LeO.ite ?_ ?_)
      | (with_reducible refine LeO.bind ?_ (fun _ => ?_))
      | exact ih0 _ _ _ _
      | exact ih1 _ _ _ _ _
      | exact pleachref19_Wrong.mono _ _ _ _
      | exact LeO.none _
      | refine LeO.ite ?_ ?_
      | refine LeO.bind ?_ (fun _ => ?_)
def pleachref19_Put.T12 : Bool × List (List Nat × List Nat) := (true, [([], []), ([], []), ([1], [1]), ([], []), ([2, 3], [2, 3]), ([4], [4]), ([5], [5]), ([0, 6], [0, 6]), ([], []), ([8], [8]), ([], []), ([9, 10], [9, 10]), ([11], [11]), ([12], [12]), ([7, 13], [7, 13]), ([14, 13, 0, 1, 2, 3, 4, 5, 6, 7, 8, 9, 10, 11, 12, 13, 14], [0, 14])])
def pleachref19_Put.B12 : List Nat := [0, 0, 2, 0, 14, 30, 62, 127, 0, 256, 0, 1792, 3840, 7936, 16383, 32767]
theorem pleachref19_Put.tab12 : rtab .any (opsOf Tryd.f36 12) = pleachref19_Put.T12 := by kernel_rfl
theorem pleachref19_Put.bits12 : waitsOk pleachref19_Put.T12.2 pleachref19_Put.B12 = true := by kernel_rfl
set_option maxHeartbeats 8000000 in
set_option maxRecDepth 100000 in
theorem pleachref19_Put.calls (k : Nat) (a0_0 : Int) (A0_1 : Option Addr) (c0_1 : Nat) (l0_1 : List (S43)) (A0_2 : Option Addr) (c0_2 : Nat) (l0_2 : List Int) (r : ByteArray) (w : World) (hr0_1 : Kd.C k43 w A0_1 l0_1.length l0_1) (hc0_1 : l0_1.length ≤ c0_1) (hr0_2 : Kd.C (Kd.int .i64) w A0_2 l0_2.length l0_2) (hc0_2 : l0_2.length ≤ c0_2) (h : pleachref19_Put.f k a0_0 l0_1 l0_2 = some r) :
    Calls Tryd.prog 36 #[.agg #[.int .i64 a0_0, .slice A0_1 l0_1.length c0_1, .slice A0_2 l0_2.length c0_2]] w fun e w' => e = .returned (.string r) ∧ Below w.heap.size w w' := by
 have hu39 := Tryd.underlying39
 have HR0_1 := Aside0.mk hr0_1
 have HC0_1 := Aside0.mk hc0_1
 clear hr0_1 hc0_1
 have HR0_2 := Aside0.mk hr0_2
 have HC0_2 := Aside0.mk hc0_2
 clear hr0_2 hc0_2
 have HB := Aside0.mk (Below.refl w.heap.size w)
 have H : ((pleachref19_Wrong.f k a0_0 l0_1 l0_2).bind fun t346 => (if t346 = 0 then (if a0_0 > 0 then ((pleachref04_PutNum.f a0_0).bind fun t347 => (if 1 + t347.size ≤ 9223372036854775807 then (pleachref19_Put.j0 k ((⟨#[73]⟩ : ByteArray) ++ t347) a0_0 l0_1 l0_2) else (none))) else (pleachref19_Put.j0 k (⟨#[76]⟩ : ByteArray) a0_0 l0_1 l0_2)) else (some (⟨#[]⟩ : ByteArray)))) = some r := h
 clear h
 replace H := Option.bind_eq_some_iff.mp H
 obtain ⟨t346, A20, H⟩ := H
 replace H : (if t346 = 0 then (if a0_0 > 0 then ((pleachref04_PutNum.f a0_0).bind fun t347 => (if 1 + t347.size ≤ 9223372036854775807 then (pleachref19_Put.j0 k ((⟨#[73]⟩ : ByteArray) ++ t347) a0_0 l0_1 l0_2) else (none))) else (pleachref19_Put.j0 k (⟨#[76]⟩ : ByteArray) a0_0 l0_1 l0_2)) else (some (⟨#[]⟩ : ByteArray))) = some r := H
 have A2 := Aside0.mk A20
 clear A20
 by_cases c3 : t346 = 0
 ·rw [if_pos c3] at H
  have c3b0 : (t346 == 0) = true := beq_iff_eq.mpr c3
  have c3b1 : (t346 != 0) = false := bne_eq_false_iff_eq.mpr c3
  clear c3
  have HC4 := Aside0.mk H
  clear H
  go_enter Tryd.func36, Tryd.ntmps36
  go_upto_if 10 with (first | ((with_reducible refine gate_dst (N := 1) rfl ?_); refine M.bx 1 39 (#[.int .i64 a0_0, .slice A0_1 l0_1.length c0_1, .slice A0_2 l0_2.length c0_2]) ?_; intro zad hg w5 hbox hb; have zae := Aside0.mk (hbox); have zaf := M.upG HB hg; have zag := M.upG HB hg; replace HB := M.upS HB hb; clear hb hbox hg; obtain ⟨zah, zai, zaj⟩ := M.bc3 (w := w5) (a := .int .i64 a0_0) (b := .slice A0_1 l0_1.length c0_1) (c := .slice A0_2 l0_2.length c0_2) zae.out; obtain ⟨zak, zal, zam⟩ := M.bf3 zae) | ((with_reducible refine gate_callee (f := 52) rfl ?_); refine M.goes (some 6) Tryd.func52 #[.agg #[.int .i64 a0_0, .slice A0_1 l0_1.length c0_1, .slice A0_2 l0_2.length c0_2]] rfl ?_; (with_reducible refine (pleachref19_Wrong.calls k a0_0 _ _ l0_1 _ _ l0_2 t346 _ ?side1 ?side2 ?side3 ?side4 A2.out).mono ?_); (case side1 => exact M.cB HR0_1 HB); (case side2 => exact HC0_1.out); (case side3 => exact M.cB HR0_2 HB); (case side4 => exact HC0_2.out); rintro e w7 ⟨rfl, hb⟩; refine ⟨_, rfl, ?_⟩; replace zae := M.bkB zae hb; replace HB := M.upS HB hb; (try clear hb); obtain ⟨zan, zao, zap⟩ := M.bc3 (w := w7) (a := .int .i64 a0_0) (b := .slice A0_1 l0_1.length c0_1) (c := .slice A0_2 l0_2.length c0_2) zae.out; obtain ⟨zaq, zar, zas⟩ := M.bf3 zae))
  (try simp only [Act.put, List.setIfInBounds_toArray, List.set_cons_zero, List.set_cons_succ])
  go_cut [3] (fun v3 wc => ∃ (kq : Nat) (x3_3 : ByteArray), v3 = .string x3_3 ∧ Aside0 (pleachref19_Put.j0 kq x3_3 a0_0 l0_1 l0_2 = some r) ∧ Aside0 (kq ≤ k) ∧ Aside0 (wc.heap[zad]? = some (.cells #[.int .i64 a0_0, (.slice A0_1 l0_1.length c0_1), (.slice A0_2 l0_2.length c0_2)] 39 (0, 0))) ∧ Aside0 (Below w.heap.size w wc))
  case first =>
   have H := HC4.out
   clear HC4
   by_cases c9 : a0_0 > 0
   ·rw [if_pos c9] at H
    have c9b0 := decide_eq_true c9
    clear c9
    (first | rw [c9b0] | (simp only [i64_w, i32_w]; rw [c9b0]) | skip)
    replace H := Option.bind_eq_some_iff.mp H
    obtain ⟨t347, A100, H⟩ := H
    replace H : (if 1 + t347.size ≤ 9223372036854775807 then (pleachref19_Put.j0 k ((⟨#[73]⟩ : ByteArray) ++ t347) a0_0 l0_1 l0_2) else (none)) = some r := H
    have A10 := Aside0.mk A100
    clear A100
    by_cases c11 : 1 + t347.size ≤ 9223372036854775807
    ·rw [if_pos c11] at H
     have c11b0 := eq_true c11
     have c11b1 := decide_eq_true c11
     try have c11b2 : (9223372036854775807 < 1 + t347.size) = False := eq_false (Nat.not_lt.2 c11)
     have H' := Aside0.mk H
     clear H
     obtain ⟨zat, zau, zav⟩ := M.bc3 (w := w7) (a := .int .i64 a0_0) (b := .slice A0_1 l0_1.length c0_1) (c := .slice A0_2 l0_2.length c0_2) zae.out
     obtain ⟨zaw, zax, zay⟩ := M.bf3 zae
     go_wp2_with (first | ((with_reducible refine gate_callee (f := 53) rfl ?_); refine M.goes (some 13) Tryd.func53 #[.int .i64 a0_0] rfl ?_; (with_reducible refine (pleachref04_PutNum.calls a0_0 t347 _ A10.out).mono ?_); rintro e w13 ⟨rfl, hb⟩; refine ⟨_, rfl, ?_⟩; replace zae := M.bkB zae hb; replace HB := M.upS HB hb; (try clear hb)))
     go_meet
     case rel => exact ⟨_, ((⟨#[73]⟩ : ByteArray) ++ t347), M.eqv, H', ⟨by first | omega | exact Nat.le_refl _⟩, ⟨M.bk zae⟩, ⟨M.up HB⟩⟩
    ·exact M.nf c11 H
   ·rw [if_neg c9] at H
    have c9b0 := decide_eq_false c9
    clear c9
    (first | rw [c9b0] | (simp only [i64_w, i32_w]; rw [c9b0]) | skip)
    have H' := Aside0.mk H
    clear H
    go_wp2
    go_meet
    case rel => exact ⟨_, ((⟨#[76]⟩ : ByteArray)), M.eqv, H', ⟨by first | omega | exact Nat.le_refl _⟩, ⟨M.bk zae⟩, ⟨M.up HB⟩⟩
  case rest =>
   clear HC4
   (try clear c1); (try clear p2); (try clear c3); (try clear c3b0); (try clear c3b1); (try clear c5); (try clear c9); (try clear c9b0); (try clear c11); (try clear c11b0); (try clear c11b1); (try clear c11b2); (try clear zat); (try clear zau); (try clear zav); (try clear zah); (try clear zai); (try clear zaj); (try clear zan); (try clear zao); (try clear zap); (try clear zaw); (try clear zax); (try clear zay); (try clear zak); (try clear zal); (try clear zam); (try clear zaq); (try clear zar); (try clear zas)
   obtain ⟨kq, x3_3, rfl, HA, HJ3, zae, HB⟩ := hcut
   cases kq with
   | zero => exact absurd HA.out (by simp [pleachref19_Put.j0])
   | succ kj3 =>
    have H := HA.out
    clear HA
    simp only [pleachref19_Put.j0] at H
    replace H := Option.bind_eq_some_iff.mp H
    obtain ⟨t348, A140, H⟩ := H
    replace H : (if x3_3.size + t348.size ≤ 9223372036854775807 then (pleachref19_Put.l0 kj3 (x3_3 ++ t348) 0 a0_0 l0_1 l0_2) else (none)) = some r := H
    have A14 := Aside0.mk A140
    clear A140
    by_cases c15 : x3_3.size + t348.size ≤ 9223372036854775807
    ·rw [if_pos c15] at H
     have c15b0 := eq_true c15
     have c15b1 := decide_eq_true c15
     try have c15b2 : (9223372036854775807 < x3_3.size + t348.size) = False := eq_false (Nat.not_lt.2 c15)
     have H' := Aside0.mk H
     clear H
     obtain ⟨zaz, zaA, zaB⟩ := M.bc3 (w := wc) (a := .int .i64 a0_0) (b := .slice A0_1 l0_1.length c0_1) (c := .slice A0_2 l0_2.length c0_2) zae.out
     obtain ⟨zaC, zaD, zaE⟩ := M.bf3 zae
     go_wp2_with (first | ((with_reducible refine gate_callee (f := 53) rfl ?_); refine M.goes (some 19) Tryd.func53 #[.int .i64 (l0_1.length : Int)] rfl ?_; (with_reducible refine (pleachref04_PutNum.calls (l0_1.length : Int) t348 _ A14.out).mono ?_); rintro e w17 ⟨rfl, hb⟩; refine ⟨_, rfl, ?_⟩; replace zae := M.bkB zae hb; replace HB := M.upS HB hb; (try clear hb)))
     go_loopg [3, 4] kj3 (fun kq v3 v4 w' => ∃ (x3_2 : ByteArray) (x4_2 : Int), v3 = .string x3_2 ∧ v4 = .int .i64 x4_2 ∧ Aside0 (pleachref19_Put.l0 kq x3_2 x4_2 a0_0 l0_1 l0_2 = some r) ∧ Aside0 (kq ≤ kj3) ∧ Aside0 (w'.heap[zad]? = some (.cells #[.int .i64 a0_0, (.slice A0_1 l0_1.length c0_1), (.slice A0_2 l0_2.length c0_2)] 39 (0, 0))) ∧ Aside0 (Below w.heap.size w w'))
     case atStart => exact ⟨(x3_3 ++ t348), (0), M.eqv, M.eqv, H', ⟨Nat.le_refl _⟩, ⟨M.bk zae⟩, ⟨M.up HB⟩⟩
     case round =>
      clear H'
      (try clear c1); (try clear p2); (try clear c3); (try clear c3b0); (try clear c3b1); (try clear c5); (try clear c9); (try clear c9b0); (try clear c11); (try clear c11b0); (try clear c11b1); (try clear c11b2); (try clear c15); (try clear c15b0); (try clear c15b1); (try clear c15b2); (try clear zat); (try clear zau); (try clear zav); (try clear zaz); (try clear zaA); (try clear zaB); (try clear zah); (try clear zai); (try clear zaj); (try clear zan); (try clear zao); (try clear zap); (try clear zaw); (try clear zax); (try clear zay); (try clear zaC); (try clear zaD); (try clear zaE); (try clear zak); (try clear zal); (try clear zam); (try clear zaq); (try clear zar); (try clear zas); (try clear p2)
      obtain ⟨x3_2, x4_2, rfl, rfl, HA, HK2, zae, HB⟩ := hrel
      cases gk with
      | zero => exact absurd HA.out (by simp [pleachref19_Put.l0])
      | succ k2 =>
       have H := HA.out
       clear HA
       simp only [pleachref19_Put.l0] at H
       by_cases c18 : x4_2 < (l0_1.length : Int)
       ·rw [if_pos c18] at H
        have c18b0 := decide_eq_true c18
        clear c18
        by_cases c19 : 0 ≤ x4_2
        ·rw [if_pos c19] at H
         have c19b0 := decide_eq_true c19
         clear c19
         replace H := Option.bind_eq_some_iff.mp H
         obtain ⟨t350, A200, H⟩ := H
         replace H : (if x3_2.size + t350.size ≤ 9223372036854775807 then (if a0_0 > 0 then (if (x3_2 ++ t350).size + ((rd_T43 l0_1 x4_2).f1).size ≤ 9223372036854775807 then (if x4_2 < (l0_2.length : Int) then ((pleachref04_PutNum.f (rd l0_2 x4_2)).bind fun t353 => (if ((x3_2 ++ t350) ++ ((rd_T43 l0_1 x4_2).f1)).size + t353.size ≤ 9223372036854775807 then (pleachref19_Put.l0 k2 (((x3_2 ++ t350) ++ ((rd_T43 l0_1 x4_2).f1)) ++ t353) (wrap64 (x4_2 + 1)) a0_0 l0_1 l0_2) else (none))) else (none)) else (none)) else ((pleachref04_PutText.f ((rd_T43 l0_1 x4_2).f1)).bind fun t355 => (if (x3_2 ++ t350).size + t355.size ≤ 9223372036854775807 then (pleachref19_Put.l0 k2 ((x3_2 ++ t350) ++ t355) (wrap64 (x4_2 + 1)) a0_0 l0_1 l0_2) else (none)))) else (none)) = some r := H
         have A20 := Aside0.mk A200
         clear A200
         by_cases c21 : x3_2.size + t350.size ≤ 9223372036854775807
         ·rw [if_pos c21] at H
          have c21b0 := eq_true c21
          have c21b1 := decide_eq_true c21
          try have c21b2 : (9223372036854775807 < x3_2.size + t350.size) = False := eq_false (Nat.not_lt.2 c21)
          by_cases c22 : a0_0 > 0
          ·rw [if_pos c22] at H
           have c22b0 := decide_eq_true c22
           clear c22
           by_cases c23 : (x3_2 ++ t350).size + ((rd_T43 l0_1 x4_2).f1).size ≤ 9223372036854775807
           ·rw [if_pos c23] at H
            have c23b0 := eq_true c23
            have c23b1 := decide_eq_true c23
            try have c23b2 : (9223372036854775807 < (x3_2 ++ t350).size + ((rd_T43 l0_1 x4_2).f1).size) = False := eq_false (Nat.not_lt.2 c23)
            have c23m := c23
            (try simp only [ByteArray.size_append] at c23m)
            have c23b3 := eq_true c23m
            have c23b4 := eq_false (Nat.not_lt.2 c23m)
            have c23b5 := decide_eq_true c23m
            by_cases c24 : x4_2 < (l0_2.length : Int)
            ·rw [if_pos c24] at H
             have c24b0 := decide_eq_true c24
             clear c24
             replace H := Option.bind_eq_some_iff.mp H
             obtain ⟨t353, A250, H⟩ := H
             replace H : (if ((x3_2 ++ t350) ++ ((rd_T43 l0_1 x4_2).f1)).size + t353.size ≤ 9223372036854775807 then (pleachref19_Put.l0 k2 (((x3_2 ++ t350) ++ ((rd_T43 l0_1 x4_2).f1)) ++ t353) (wrap64 (x4_2 + 1)) a0_0 l0_1 l0_2) else (none)) = some r := H
             have A25 := Aside0.mk A250
             clear A250
             by_cases c26 : ((x3_2 ++ t350) ++ ((rd_T43 l0_1 x4_2).f1)).size + t353.size ≤ 9223372036854775807
             ·rw [if_pos c26] at H
              have c26b0 := eq_true c26
              have c26b1 := decide_eq_true c26
              try have c26b2 : (9223372036854775807 < ((x3_2 ++ t350) ++ ((rd_T43 l0_1 x4_2).f1)).size + t353.size) = False := eq_false (Nat.not_lt.2 c26)
              have c26m := c26
              (try simp only [ByteArray.size_append] at c26m)
              have c26b3 := eq_true c26m
              have c26b4 := eq_false (Nat.not_lt.2 c26m)
              have c26b5 := decide_eq_true c26m
              have H' := Aside0.mk H
              clear H
              obtain ⟨zaF, zaG, zaH⟩ := M.bc3 (w := wr) (a := .int .i64 a0_0) (b := .slice A0_1 l0_1.length c0_1) (c := .slice A0_2 l0_2.length c0_2) zae.out
              obtain ⟨zaI, zaJ, zaK⟩ := M.bf3 zae
              have p349 : 0 ≤ (x4_2 : Int) := M.dt
              have q349 : x4_2 < (l0_1.length : Int) := M.dt
              obtain ⟨ad349, e349, hx349_0, hx349_1⟩ := at_T43 HR0_1.out x4_2 p349 q349
              cases e349
              replace hx349_0 := M.hc HB hx349_0
              replace hx349_1 := M.hc HB hx349_1
              replace p349 := eq_true p349
              replace q349 := eq_true q349
              try go_wp2_with (first | ((with_reducible refine gate_callee (f := 54) rfl ?_); refine M.goes (some 35) Tryd.func54 #[.string ((rd_T43 l0_1 x4_2).f0)] rfl ?_; (with_reducible refine (pleachref04_PutText.calls ((rd_T43 l0_1 x4_2).f0) t350 _ A20.out).mono ?_); rintro e w28 ⟨rfl, hb⟩; refine ⟨_, rfl, ?_⟩; replace zae := M.bkB zae hb; replace HB := M.upS HB hb; (try clear hb); obtain ⟨zaL, zaM, zaN⟩ := M.bc3 (w := w28) (a := .int .i64 a0_0) (b := .slice (some ad349) l0_1.length c0_1) (c := .slice A0_2 l0_2.length c0_2) zae.out; obtain ⟨zaO, zaP, zaQ⟩ := M.bf3 zae))
              replace zae := Aside0.mk (blk_drew zae.out); replace HB := Aside0.mk (below_drew1 HB.out)
              have p351 : 0 ≤ (x4_2 : Int) := M.dt
              have q351 : x4_2 < (l0_1.length : Int) := M.dt
              obtain ⟨ad351, e351, hx351_0, hx351_1⟩ := at_T43 HR0_1.out x4_2 p351 q351
              have hw351_1 := hx351_1
              have hw351_0 := hx351_0
              obtain rfl : ad349 = ad351 := (by injection e351)
              replace hx351_0 := M.hc HB hx351_0
              replace hx351_1 := M.hc HB hx351_1
              replace p351 := eq_true p351
              replace q351 := eq_true q351
              have p352 : 0 ≤ (x4_2 : Int) := M.dt
              have q352 : x4_2 < (l0_2.length : Int) := M.dt
              obtain ⟨ad352, e352, hx352_0⟩ := Kd.at_int HR0_2.out x4_2 p352 q352
              have hw352_0 := hx352_0
              cases e352
              replace hx352_0 := M.hc HB hx352_0
              replace p352 := eq_true p352
              replace q352 := eq_true q352
              refine start_ (n := 16) (S := fun w' => w'.cell? ⟨zad, 0, none⟩ = some (.int .i64 a0_0) ∧ w'.cell? ⟨zad, 1, none⟩ = some (.slice (some ad349) l0_1.length c0_1) ∧ w'.cell? ⟨zad, 2, none⟩ = some (.slice (some ad352) l0_2.length c0_2) ∧ w'.cell? (ad349.add ((x4_2).toNat * 2)) = some (.string ((rd_T43 l0_1 x4_2).f0)) ∧ w'.cell? ⟨(ad349.add ((x4_2).toNat * 2)).block, (ad349.add ((x4_2).toNat * 2)).off + 1, none⟩ = some (.string ((rd_T43 l0_1 x4_2).f1)) ∧ w'.cell? (ad352.add (x4_2).toNat) = some (.int .i64 (rd l0_2 x4_2))) (ds := []) (M.tf [0, 16]) (by kernel_rfl) rfl rfl ⟨(blk_cell zae.out 0).trans rfl, (blk_cell zae.out 1).trans rfl, (blk_cell zae.out 2).trans rfl, ((HB.out.cell (World.block_lt_of_cell? w _ hw351_0)).trans hw351_0), ((HB.out.cell (World.block_lt_of_cell? w _ hw351_1)).trans hw351_1), ((HB.out.cell (World.block_lt_of_cell? w _ hw352_0)).trans hw352_0)⟩ (fun hHeld => ?_); refine with_tabW pleachref19_Put.tab12 pleachref19_Put.bits12 (fun HT_ HW_ => ?_)
              generalize w28.drew = w30 at zae HB hx351_0 hx351_1 hx352_0 hHeld ⊢
              refine M.pu 0 40 [1, 15] HT_ ?_
              refine M.pu 1 41 [2, 14] HT_ ?_
              refine M.pu 3 43 [2, 1, 1, 12] HT_ ?_
              refine M.pu 8 48 [2, 1, 1, 4, 1, 7] HT_ ?_
              refine M.pu 10 50 [2, 1, 1, 4, 1, 1, 1, 5] HT_ ?_
              refine M.tk 2 42 [4, 4, 1, 1, 1, 5] HT_ HW_ hHeld ?_
              refine M.pu 4 44 [5, 3, 1, 1, 1, 5] HT_ ?_
              refine M.pu 5 45 [6, 2, 1, 1, 1, 5] HT_ ?_
              refine M.tk 6 46 [7, 1, 1, 1, 1, 5] HT_ HW_ hHeld ?_
              refine M.pu 7 47 [9, 1, 1, 5] HT_ ?_
              refine M.tk 9 49 [11, 5] HT_ HW_ hHeld ?_
              refine M.pu 11 51 [12, 4] HT_ ?_
              refine M.tk 12 52 [13, 3] HT_ HW_ hHeld ?_
              refine one_ (i := 13) (N := some 53) (M.tf [14, 2]) rfl rfl (one_of HT_.out (by kernel_rfl)) (by decide) (fun K hK => ?_)
              refine goes_ Tryd.func53 (by kernel_rfl) rfl #[.int .i64 (rd l0_2 x4_2)] (by rfl) rfl rfl (by (try simp only [List.map_toArray, List.map_cons, List.map_nil]); first | done | rfl | (simp only [List.length_drop, List.length_take]; rfl)) ?_
              with_reducible refine (pleachref04_PutNum.calls (rd l0_2 x4_2) t353 _ A25.out).mono ?_
              rintro e w31 ⟨rfl, hb⟩
              refine ⟨_, rfl, ?_⟩
              replace zae := M.bkB zae hb; replace HB := M.upS HB hb
              (try clear hb)
              (try clear hb2)
              (try clear hk)
              (try clear hi)
              refine hK.out _ _ ⟨(blk_cell zae.out 0).trans rfl, (blk_cell zae.out 1).trans rfl, (blk_cell zae.out 2).trans rfl, ((HB.out.cell (World.block_lt_of_cell? w _ hw351_0)).trans hw351_0), ((HB.out.cell (World.block_lt_of_cell? w _ hw351_1)).trans hw351_1), ((HB.out.cell (World.block_lt_of_cell? w _ hw352_0)).trans hw352_0)⟩ (fun hHeld => ?_)
              clear hK K
              refine norm_ (a' := ?_) ?_ ?_
              rotate_left
              ·show Act.put _ (some 53) _ = _
               simp only [Act.put, List.setIfInBounds_toArray, List.set_cons_zero, List.set_cons_succ, i64_w, i32_w]
               rfl
              refine M.pu 14 54 [15, 1] HT_ ?_
              refine M.pu 15 3 [16] HT_ ?_
              refine done_ (done_of HT_.out (by kernel_rfl)) ?_
              try go_wp2
              go_roundg k2
              case measure => have := HJ3.out; have := HK2.out; omega
              case rel => exact ⟨(((x3_2 ++ t350) ++ ((rd_T43 l0_1 x4_2).f1)) ++ t353), (wrap64 (x4_2 + 1)), M.eqv, M.eqv, H', ⟨by have := HJ3.out; have := HK2.out; omega⟩, ⟨M.bk zae⟩, ⟨M.up HB⟩⟩
             ·exact M.nf c26 H
            ·exact M.nf c24 H
           ·exact M.nf c23 H
          ·rw [if_neg c22] at H
           have c22b0 := decide_eq_false c22
           clear c22
           replace H := Option.bind_eq_some_iff.mp H
           obtain ⟨t355, A320, H⟩ := H
           replace H : (if (x3_2 ++ t350).size + t355.size ≤ 9223372036854775807 then (pleachref19_Put.l0 k2 ((x3_2 ++ t350) ++ t355) (wrap64 (x4_2 + 1)) a0_0 l0_1 l0_2) else (none)) = some r := H
           have A32 := Aside0.mk A320
           clear A320
           by_cases c33 : (x3_2 ++ t350).size + t355.size ≤ 9223372036854775807
           ·rw [if_pos c33] at H
            have c33b0 := eq_true c33
            have c33b1 := decide_eq_true c33
            try have c33b2 : (9223372036854775807 < (x3_2 ++ t350).size + t355.size) = False := eq_false (Nat.not_lt.2 c33)
            have c33m := c33
            (try simp only [ByteArray.size_append] at c33m)
            have c33b3 := eq_true c33m
            have c33b4 := eq_false (Nat.not_lt.2 c33m)
            have c33b5 := decide_eq_true c33m
            have H' := Aside0.mk H
            clear H
            obtain ⟨zaR, zaS, zaT⟩ := M.bc3 (w := wr) (a := .int .i64 a0_0) (b := .slice A0_1 l0_1.length c0_1) (c := .slice A0_2 l0_2.length c0_2) zae.out
            obtain ⟨zaU, zaV, zaW⟩ := M.bf3 zae
            have p349 : 0 ≤ (x4_2 : Int) := M.dt
            have q349 : x4_2 < (l0_1.length : Int) := M.dt
            obtain ⟨ad349, e349, hx349_0, hx349_1⟩ := at_T43 HR0_1.out x4_2 p349 q349
            cases e349
            replace hx349_0 := M.hc HB hx349_0
            replace hx349_1 := M.hc HB hx349_1
            replace p349 := eq_true p349
            replace q349 := eq_true q349
            go_wp2_with (first | ((with_reducible refine gate_callee (f := 54) rfl ?_); refine M.goes (some 35) Tryd.func54 #[.string ((rd_T43 l0_1 x4_2).f0)] rfl ?_; (with_reducible refine (pleachref04_PutText.calls ((rd_T43 l0_1 x4_2).f0) t350 _ A20.out).mono ?_); rintro e w35 ⟨rfl, hb⟩; refine ⟨_, rfl, ?_⟩; replace zae := M.bkB zae hb; replace HB := M.upS HB hb; (try clear hb); obtain ⟨zaX, zaY, zaZ⟩ := M.bc3 (w := w35) (a := .int .i64 a0_0) (b := .slice (some ad349) l0_1.length c0_1) (c := .slice A0_2 l0_2.length c0_2) zae.out; obtain ⟨za0, za1, za2⟩ := M.bf3 zae; have p354 : 0 ≤ (x4_2 : Int) := M.dt; have q354 : x4_2 < (l0_1.length : Int) := M.dt; obtain ⟨ad354, e354, hx354_0, hx354_1⟩ := at_T43 HR0_1.out x4_2 p354 q354; obtain rfl : ad349 = ad354 := (by injection e354); replace hx354_0 := M.hc HB hx354_0; replace hx354_1 := M.hc HB hx354_1; replace p354 := eq_true p354; replace q354 := eq_true q354) | ((with_reducible refine gate_callee (f := 54) rfl ?_); refine M.goes (some 62) Tryd.func54 #[.string ((rd_T43 l0_1 x4_2).f1)] rfl ?_; (with_reducible refine (pleachref04_PutText.calls ((rd_T43 l0_1 x4_2).f1) t355 _ A32.out).mono ?_); rintro e w37 ⟨rfl, hb⟩; refine ⟨_, rfl, ?_⟩; replace zae := M.bkB zae hb; replace HB := M.upS HB hb; (try clear hb)))
            go_roundg k2
            case measure => have := HJ3.out; have := HK2.out; omega
            case rel => exact ⟨((x3_2 ++ t350) ++ t355), (wrap64 (x4_2 + 1)), M.eqv, M.eqv, H', ⟨by have := HJ3.out; have := HK2.out; omega⟩, ⟨M.bk zae⟩, ⟨M.up HB⟩⟩
           ·exact M.nf c33 H
         ·exact M.nf c21 H
        ·exact M.nf c19 H
       ·rw [if_neg c18] at H
        have c18b0 := decide_eq_false c18
        clear c18
        obtain rfl := Option.some.inj H
        obtain ⟨za3, za4, za5⟩ := M.bc3 (w := wr) (a := .int .i64 a0_0) (b := .slice A0_1 l0_1.length c0_1) (c := .slice A0_2 l0_2.length c0_2) zae.out
        obtain ⟨za6, za7, za8⟩ := M.bf3 zae
        go_wp2
        go_ret
        exact M.fin (M.up HB)
    ·exact M.nf c15 H
 ·rw [if_neg c3] at H
  have c3b0 : (t346 == 0) = false := beq_eq_false_iff_ne.mpr c3
  have c3b1 : (t346 != 0) = true := bne_iff_ne.mpr c3
  obtain rfl := Option.some.inj H
  go_enter Tryd.func36, Tryd.ntmps36
  go_wp2_with (first | ((with_reducible refine gate_dst (N := 1) rfl ?_); refine M.bx 1 39 (#[.int .i64 a0_0, .slice A0_1 l0_1.length c0_1, .slice A0_2 l0_2.length c0_2]) ?_; intro zad hg w39 hbox hb; have zae := Aside0.mk (hbox); have zaf := M.upG HB hg; have zag := M.upG HB hg; replace HB := M.upS HB hb; clear hb hbox hg; obtain ⟨za9, zba, zbb⟩ := M.bc3 (w := w39) (a := .int .i64 a0_0) (b := .slice A0_1 l0_1.length c0_1) (c := .slice A0_2 l0_2.length c0_2) zae.out; obtain ⟨zbc, zbd, zbe⟩ := M.bf3 zae) | ((with_reducible refine gate_callee (f := 52) rfl ?_); refine M.goes (some 6) Tryd.func52 #[.agg #[.int .i64 a0_0, .slice A0_1 l0_1.length c0_1, .slice A0_2 l0_2.length c0_2]] rfl ?_; (with_reducible refine (pleachref19_Wrong.calls k a0_0 _ _ l0_1 _ _ l0_2 t346 _ ?side1 ?side2 ?side3 ?side4 A2.out).mono ?_); (case side1 => exact M.cB HR0_1 HB); (case side2 => exact HC0_1.out); (case side3 => exact M.cB HR0_2 HB); (case side4 => exact HC0_2.out); rintro e w41 ⟨rfl, hb⟩; refine ⟨_, rfl, ?_⟩; replace zae := M.bkB zae hb; replace HB := M.upS HB hb; (try clear hb)))
  go_ret
  exact M.fin (M.up HB)
end Go.Proofs.YtkjbhgolillidaaDoor.EMarkNames
