-- Written by this session's own program (wip/tools/ext.py) for this claim; Lean checks it.
import Derived.Test.YtccppdpmfegndaaEChunkTakesx0
import Derived.Test.YtccppdpmfegndaaEChunkTakesx8
import Derived.Test.YtccppdpmfegndaaEChunkTakesx10
namespace Go.Proofs.Ytccppdpmfegndaa.EChunkTakes
open Go.RowKit Go.Proofs.YtccppdpmfegndaaW.PrintWords Go.Proofs.YtccppdpmfegndaaW.PrintLast Go.Proofs.YtccppdpmfegndaaW.PrintMore
attribute [local go_sem] M.run_leq M.run_gtr M.run_geq max2_int min2_int max_two min_two max_three min_three max_four min_four   -- for this text's walks alone
set_option linter.unusedVariables false
set_option linter.unusedSimpArgs false

/-! ### pleachref04_PutNum_p: function 41 -/
def pleachref04_PutNum_p.j0 : Nat → Int → Option (ByteArray)
  | 0, _ => none
  | k + 1, x0 => (pleachref01_Put.f (IntKind.u64.wrap (x0))).bind fun t277 => (some t277)
def pleachref04_PutNum_p.f (k : Nat) (a0 : Int) : Option (ByteArray) := if a0 < 0 then (pleachref04_PutNum_p.j0 k 0) else (pleachref04_PutNum_p.j0 k a0)
theorem pleachref04_PutNum_p.mono_l : ∀ k, (∀ y0, LeO (pleachref04_PutNum_p.j0 k y0) (pleachref04_PutNum_p.j0 (k + 1) y0))
  | 0 => fun _ r h => by simp [pleachref04_PutNum_p.j0] at h
  | k + 1 => by
    have ih0 := pleachref04_PutNum_p.mono_l k
    · intro y0
      unfold pleachref04_PutNum_p.j0
      repeat' first
      | (with_reducible exact ih0 _)
      | (with_reducible exact LeO.refl _)
      | (with_reducible exact LeO.none _)
      | (with_reducible refine LeO.ite ?_ ?_)
      | (with_reducible refine LeO.bind ?_ (fun _ => ?_))
      | exact ih0 _
      | exact LeO.none _
      | refine LeO.ite ?_ ?_
      | refine LeO.bind ?_ (fun _ => ?_)
theorem pleachref04_PutNum_p.mono : ∀ a0 k, LeO (pleachref04_PutNum_p.f k a0) (pleachref04_PutNum_p.f (k + 1) a0) := by
  intro a0 k
  have ih0 := pleachref04_PutNum_p.mono_l k
  unfold pleachref04_PutNum_p.f
  repeat' first
      | (with_reducible exact ih0 _)
      | (with_reducible exact LeO.refl _)
      | (with_reducible exact LeO.none _)
      | (with_reducible refine LeO.ite ?_ ?_)
      | (with_reducible refine LeO.bind ?_ (fun _ => ?_))
      | exact ih0 _
      | exact LeO.none _
      | refine LeO.ite ?_ ?_
      | refine LeO.bind ?_ (fun _ => ?_)
set_option maxHeartbeats 8000000 in
set_option maxRecDepth 100000 in
theorem pleachref04_PutNum_p.calls (k : Nat) (a0 : Int) (r : ByteArray) (w : World) (h : pleachref04_PutNum_p.f k a0 = some r) :
    Calls Try.prog 41 #[.int .i64 a0] w fun e w' => e = .returned (.string r) ∧ Below w.heap.size w w' := by
  have HB := Aside0.mk (Below.refl w.heap.size w)
  have H : (if a0 < 0 then (pleachref04_PutNum_p.j0 k 0) else (pleachref04_PutNum_p.j0 k a0)) = some r := h
  clear h
  have HC2 := Aside0.mk H
  clear H
  go_enter Try.func41, Try.ntmps41
  go_upto_if 4 with (fail)
  go_cut [0] (fun v0 wc => ∃ (kq : Nat) (x0_1 : Int), v0 = .int .i64 x0_1 ∧ Aside0 (pleachref04_PutNum_p.j0 kq x0_1 = some r) ∧ Aside0 (kq ≤ k) ∧ Aside0 (Below w.heap.size w wc))
  case first =>
    have H := HC2.out
    clear HC2
    by_cases c3 : a0 < 0
    · rw [if_pos c3] at H
      have c3b0 : decide (a0 < 0) = true := decide_eq_true c3
      clear c3
      (first | rw [c3b0] | (simp only [i64_w, i32_w]; rw [c3b0]) | skip)
      have H' := Aside0.mk H
      clear H
      go_wp2
      go_meet
      case rel => exact ⟨_, (0), (by first | rfl | (simp; done) | (simp [*]; done) | (simp [M.isEmpty_bne]; done)), H', ⟨by first | omega | exact Nat.le_refl _⟩, ⟨M.up HB⟩⟩
    · rw [if_neg c3] at H
      have c3b0 : decide (a0 < 0) = false := decide_eq_false c3
      clear c3
      (first | rw [c3b0] | (simp only [i64_w, i32_w]; rw [c3b0]) | skip)
      have H' := Aside0.mk H
      clear H
      go_wp2
      go_meet
      case rel => exact ⟨_, (a0), (by first | rfl | (simp; done) | (simp [*]; done) | (simp [M.isEmpty_bne]; done)), H', ⟨by first | omega | exact Nat.le_refl _⟩, ⟨M.up HB⟩⟩
  case rest =>
    clear HC2
    try clear p2
    try clear c3
    try clear c3b0
    obtain ⟨kq, x0_1, rfl, HA, HJ1, HB⟩ := hcut
    cases kq with
    | zero => exact absurd HA.out (by simp [pleachref04_PutNum_p.j0])
    | succ kj1 =>
      have H := HA.out
      clear HA
      simp only [pleachref04_PutNum_p.j0] at H
      replace H := Option.bind_eq_some_iff.mp H
      obtain ⟨t277, A40, H⟩ := H
      replace H : (some t277) = some r := H
      have A4 := Aside0.mk A40
      clear A40
      obtain rfl := Option.some.inj H
      go_wp2_with (first | ((with_reducible refine gate_callee (f := 44) rfl ?_); refine M.goes (some 7) Try.func44 #[.int .u64 (IntKind.u64.wrap (x0_1))] rfl ?_; (with_reducible refine (pleachref01_Put.calls (IntKind.u64.wrap (x0_1)) t277 _ A4.out).mono ?_); rintro e w5 ⟨rfl, hb⟩; refine ⟨_, rfl, ?_⟩; have n0_ := M.upS HB hb; clear HB; have HB := n0_; clear n0_; (try clear hb)))
      go_ret
      exact M.fin (M.up HB)

-- this session's own plain form
def pleachref04_PutNum.f (a0 : Int) : Option ByteArray := if a0 ≤ 9223372036854775807 then some (M.sb (M.vb a0.toNat)) else none
theorem pleachref04_PutNum.ev (a0 : Int) (r : ByteArray) (h : pleachref04_PutNum.f a0 = some r) : ∃ k, pleachref04_PutNum_p.f k a0 = some r := by
  unfold pleachref04_PutNum.f at h
  split at h
  · rename_i hh
    have key : ∀ n : Nat, n ≤ 9223372036854775807 → pleachref04_PutNum_p.j0 1 (n : Int) = some (M.sb (M.vb n)) := by
      intro n hn
      simp only [pleachref04_PutNum_p.j0, pleachref01_Put.f]
      rw [M.u64_id (by omega) (by omega), if_pos ⟨by omega, by omega⟩, Int.toNat_natCast]; rfl
    refine ⟨1, ?_⟩
    unfold pleachref04_PutNum_p.f
    by_cases h0 : a0 < 0
    · rw [if_pos h0]
      have := key 0 (by decide)
      rw [show a0.toNat = 0 from by omega] at h
      exact this.trans h
    · rw [if_neg h0]
      have := key a0.toNat (by omega)
      rw [show ((a0.toNat : Nat) : Int) = a0 from by omega] at this
      exact this.trans h
  · cases h
theorem pleachref04_PutNum.calls (a0 : Int) (r : ByteArray) (w : World) (h : pleachref04_PutNum.f a0 = some r) :
    Calls Try.prog 41 #[.int .i64 a0] w fun e w' => e = .returned (.string r) ∧ Below w.heap.size w w' := by
  obtain ⟨k, hk⟩ := pleachref04_PutNum.ev _ _ h
  exact pleachref04_PutNum_p.calls (k := k) (w := w) (h := hk)

/-! ### pleachref04_PutText: function 42 -/
def pleachref04_PutText.f (a0 : ByteArray) : Option ByteArray := if a0.size ≤ 9223372036854775797 then some (M.sb (M.vb a0.size) ++ a0) else none
theorem pleachref04_PutText.go (a0 p : ByteArray) (w : World) (h0 : a0.size ≤ 9223372036854775797) (hp : pleachref01_Put.f (a0.size : Int) = some p) (hs : p.size + a0.size ≤ 9223372036854775807) :
    Calls Try.prog 42 #[.string a0] w fun e w' => e = .returned (.string (p ++ a0)) ∧ Below w.heap.size w w' := by
  have HP := Aside0.mk hp
  clear hp
  have c3b0 := eq_true hs
  have c3b1 : decide (p.size + a0.size ≤ 9223372036854775807) = true := decide_eq_true hs
  have c3b2 : (9223372036854775807 < p.size + a0.size) = False := eq_false (Nat.not_lt.2 hs)
  go_enter Try.func42, Try.ntmps42
  go_wp2_with (go_at_call 44; refine (pleachref01_Put.calls (a0.size : Int) p _ HP.out).mono ?_; rintro e w1 ⟨rfl, hb⟩)
  go_ret
  exact ⟨rfl, hb⟩
theorem pleachref04_PutText.calls (a0 : ByteArray) (r : ByteArray) (w : World) (h : pleachref04_PutText.f a0 = some r) :
    Calls Try.prog 42 #[.string a0] w fun e w' => e = .returned (.string r) ∧ Below w.heap.size w w' := by
  unfold pleachref04_PutText.f at h
  split at h
  · rename_i hh
    obtain rfl := Option.some.inj h
    have hl := M.vb_le a0.size (by omega)
    refine pleachref04_PutText.go a0 _ w hh ?_ (by rw [M.size_sb]; omega)
    unfold pleachref01_Put.f
    rw [if_pos ⟨by omega, by omega⟩, Int.toNat_natCast]
  · cases h

/-! ### pleachref19_Put: function 29 -/
mutual
def pleachref19_Put.j0 : Nat → ByteArray → Int → List (S29) → List Int → Option (ByteArray)
  | 0, _, _, _, _ => none
  | k + 1, x3, zaa, zab, zac => (pleachref04_PutNum.f (zab.length : Int)).bind fun t281 => (if x3.size + t281.size ≤ 9223372036854775807 then (pleachref19_Put.l0 k (x3 ++ t281) 0 zaa zab zac) else (none))
def pleachref19_Put.l0 : Nat → ByteArray → Int → Int → List (S29) → List Int → Option (ByteArray)
  | 0, _, _, _, _, _ => none
  | k + 1, x3, x4, zaa, zab, zac => if x4 < (zab.length : Int) then (if 0 ≤ x4 then ((pleachref04_PutText.f ((rd_T29 zab x4).f0)).bind fun t283 => (if x3.size + t283.size ≤ 9223372036854775807 then (if zaa > 0 then (if (x3 ++ t283).size + ((rd_T29 zab x4).f1).size ≤ 9223372036854775807 then (if x4 < (zac.length : Int) then ((pleachref04_PutNum.f (rd zac x4)).bind fun t286 => (if ((x3 ++ t283) ++ ((rd_T29 zab x4).f1)).size + t286.size ≤ 9223372036854775807 then (pleachref19_Put.l0 k (((x3 ++ t283) ++ ((rd_T29 zab x4).f1)) ++ t286) (wrap64 (x4 + 1)) zaa zab zac) else (none))) else (none)) else (none)) else ((pleachref04_PutText.f ((rd_T29 zab x4).f1)).bind fun t288 => (if (x3 ++ t283).size + t288.size ≤ 9223372036854775807 then (pleachref19_Put.l0 k ((x3 ++ t283) ++ t288) (wrap64 (x4 + 1)) zaa zab zac) else (none)))) else (none))) else (none)) else (some x3)
end
def pleachref19_Put.f (k : Nat) (a0_0 : Int) (l0_1 : List (S29)) (l0_2 : List Int) : Option (ByteArray) := (pleachref19_Wrong.f k a0_0 l0_1 l0_2).bind fun t279 => (if t279 = 0 then (if a0_0 > 0 then ((pleachref04_PutNum.f a0_0).bind fun t280 => (if 1 + t280.size ≤ 9223372036854775807 then (pleachref19_Put.j0 k ((⟨#[73]⟩ : ByteArray) ++ t280) a0_0 l0_1 l0_2) else (none))) else (pleachref19_Put.j0 k (⟨#[76]⟩ : ByteArray) a0_0 l0_1 l0_2)) else (some (⟨#[]⟩ : ByteArray)))
theorem pleachref19_Put.mono_l : ∀ k, (∀ y0 y1 y2 y3, LeO (pleachref19_Put.j0 k y0 y1 y2 y3) (pleachref19_Put.j0 (k + 1) y0 y1 y2 y3)) ∧ (∀ y0 y1 y2 y3 y4, LeO (pleachref19_Put.l0 k y0 y1 y2 y3 y4) (pleachref19_Put.l0 (k + 1) y0 y1 y2 y3 y4))
  | 0 => ⟨fun _ _ _ _ r h => by simp [pleachref19_Put.j0] at h, fun _ _ _ _ _ r h => by simp [pleachref19_Put.l0] at h⟩
  | k + 1 => by
    obtain ⟨ih0, ih1⟩ := pleachref19_Put.mono_l k
    refine ⟨?_, ?_⟩
    · intro y0 y1 y2 y3
      unfold pleachref19_Put.j0
      repeat' first
      | (with_reducible exact ih0 _ _ _ _)
      | (with_reducible exact ih1 _ _ _ _ _)
      | (with_reducible exact pleachref19_Wrong.mono _ _ _ _)
      | (with_reducible exact LeO.refl _)
      | (with_reducible exact LeO.none _)
      | (with_reducible refine LeO.ite ?_ ?_)
      | (with_reducible refine LeO.bind ?_ (fun _ => ?_))
      | exact ih0 _ _ _ _
      | exact ih1 _ _ _ _ _
      | exact pleachref19_Wrong.mono _ _ _ _
      | exact LeO.none _
      | refine LeO.ite ?_ ?_
      | refine LeO.bind ?_ (fun _ => ?_)
    · intro y0 y1 y2 y3 y4
      unfold pleachref19_Put.l0
      repeat' first
      | (with_reducible exact ih0 _ _ _ _)
      | (with_reducible exact ih1 _ _ _ _ _)
      | (with_reducible exact pleachref19_Wrong.mono _ _ _ _)
      | (with_reducible exact LeO.refl _)
      | (with_reducible exact LeO.none _)
      | (with_reducible refine LeO.ite ?_ ?_)
      | (with_reducible refine LeO.bind ?_ (fun _ => ?_))
      | exact ih0 _ _ _ _
      | exact ih1 _ _ _ _ _
      | exact pleachref19_Wrong.mono _ _ _ _
      | exact LeO.none _
      | refine LeO.ite ?_ ?_
      | refine LeO.bind ?_ (fun _ => ?_)
theorem pleachref19_Put.mono : ∀ a0 a1 a2 k, LeO (pleachref19_Put.f k a0 a1 a2) (pleachref19_Put.f (k + 1) a0 a1 a2) := by
  intro a0 a1 a2 k
  obtain ⟨ih0, ih1⟩ := pleachref19_Put.mono_l k
  unfold pleachref19_Put.f
  repeat' first
      | (with_reducible exact ih0 _ _ _ _)
      | (with_reducible exact ih1 _ _ _ _ _)
      | (with_reducible exact pleachref19_Wrong.mono _ _ _ _)
      | (with_reducible exact LeO.refl _)
      | (with_reducible exact LeO.none _)
      | (with_reducible refine LeO.ite ?_ ?_)
      | (with_reducible refine LeO.bind ?_ (fun _ => ?_))
      | exact ih0 _ _ _ _
      | exact ih1 _ _ _ _ _
      | exact pleachref19_Wrong.mono _ _ _ _
      | exact LeO.none _
      | refine LeO.ite ?_ ?_
      | refine LeO.bind ?_ (fun _ => ?_)
def pleachref19_Put.T12 : Bool × List (List Nat × List Nat) := (true, [([], []), ([], []), ([1], [1]), ([], []), ([2, 3], [2, 3]), ([4], [4]), ([5], [5]), ([0, 6], [0, 6]), ([], []), ([8], [8]), ([], []), ([9, 10], [9, 10]), ([11], [11]), ([12], [12]), ([7, 13], [7, 13]), ([14, 13, 0, 1, 2, 3, 4, 5, 6, 7, 8, 9, 10, 11, 12, 13, 14], [0, 14])])
def pleachref19_Put.B12 : List Nat := [0, 0, 2, 0, 14, 30, 62, 127, 0, 256, 0, 1792, 3840, 7936, 16383, 32767]
theorem pleachref19_Put.tab12 : rtab .any (opsOf Try.f29 12) = pleachref19_Put.T12 := by kernel_rfl
theorem pleachref19_Put.bits12 : waitsOk pleachref19_Put.T12.2 pleachref19_Put.B12 = true := by kernel_rfl
set_option maxHeartbeats 8000000 in
set_option maxRecDepth 100000 in
theorem pleachref19_Put.calls (k : Nat) (a0_0 : Int) (A0_1 : Option Addr) (c0_1 : Nat) (l0_1 : List (S29)) (A0_2 : Option Addr) (c0_2 : Nat) (l0_2 : List Int) (r : ByteArray) (w : World) (hr0_1 : Kd.C k29 w A0_1 l0_1.length l0_1) (hc0_1 : l0_1.length ≤ c0_1) (hr0_2 : Kd.C (Kd.int .i64) w A0_2 l0_2.length l0_2) (hc0_2 : l0_2.length ≤ c0_2) (h : pleachref19_Put.f k a0_0 l0_1 l0_2 = some r) :
    Calls Try.prog 29 #[.agg #[.int .i64 a0_0, .slice A0_1 l0_1.length c0_1, .slice A0_2 l0_2.length c0_2]] w fun e w' => e = .returned (.string r) ∧ Below w.heap.size w w' := by
  have hu25 := Try.underlying25
  have HR0_1 := Aside0.mk hr0_1
  have HC0_1 := Aside0.mk hc0_1
  clear hr0_1 hc0_1
  have HR0_2 := Aside0.mk hr0_2
  have HC0_2 := Aside0.mk hc0_2
  clear hr0_2 hc0_2
  have HB := Aside0.mk (Below.refl w.heap.size w)
  have H : ((pleachref19_Wrong.f k a0_0 l0_1 l0_2).bind fun t279 => (if t279 = 0 then (if a0_0 > 0 then ((pleachref04_PutNum.f a0_0).bind fun t280 => (if 1 + t280.size ≤ 9223372036854775807 then (pleachref19_Put.j0 k ((⟨#[73]⟩ : ByteArray) ++ t280) a0_0 l0_1 l0_2) else (none))) else (pleachref19_Put.j0 k (⟨#[76]⟩ : ByteArray) a0_0 l0_1 l0_2)) else (some (⟨#[]⟩ : ByteArray)))) = some r := h
  clear h
  replace H := Option.bind_eq_some_iff.mp H
  obtain ⟨t279, A20, H⟩ := H
  replace H : (if t279 = 0 then (if a0_0 > 0 then ((pleachref04_PutNum.f a0_0).bind fun t280 => (if 1 + t280.size ≤ 9223372036854775807 then (pleachref19_Put.j0 k ((⟨#[73]⟩ : ByteArray) ++ t280) a0_0 l0_1 l0_2) else (none))) else (pleachref19_Put.j0 k (⟨#[76]⟩ : ByteArray) a0_0 l0_1 l0_2)) else (some (⟨#[]⟩ : ByteArray))) = some r := H
  have A2 := Aside0.mk A20
  clear A20
  by_cases c3 : t279 = 0
  · rw [if_pos c3] at H
    have c3b0 : (t279 == 0) = true := beq_iff_eq.mpr c3
    have c3b1 : (t279 != 0) = false := bne_eq_false_iff_eq.mpr c3
    clear c3
    have HC4 := Aside0.mk H
    clear H
    go_enter Try.func29, Try.ntmps29
    go_upto_if 10 with (first | ((with_reducible refine gate_dst (N := 1) rfl ?_); refine box_event ?hg (N := 1) ?hd (cs := #[.int .i64 a0_0, .slice A0_1 l0_1.length c0_1, .slice A0_2 l0_2.length c0_2]) (t := 25) ?hr ?_; (case hd => rfl); (case hg => rfl); (case hr => first | (go_simp; done) | (go_simp; rfl)); intro zad hg w5 hbox hb; have n0_ := M.upS HB hb; have n1_ := Aside0.mk (hbox); have n2_ := M.upG HB hg; have n3_ := M.upG HB hg; clear HB; have HB := n0_; have zae := n1_; have zaf := n2_; have zag := n3_; clear n0_ n1_ n2_ n3_; clear hb hbox hg; obtain ⟨zah, zai, zaj⟩ := M.bc3 (w := w5) (a := .int .i64 a0_0) (b := .slice A0_1 l0_1.length c0_1) (c := .slice A0_2 l0_2.length c0_2) zae.out; obtain ⟨zak, zal, zam⟩ := M.bf3 zae) | ((with_reducible refine gate_callee (f := 40) rfl ?_); refine M.goes (some 6) Try.func40 #[.agg #[.int .i64 a0_0, .slice A0_1 l0_1.length c0_1, .slice A0_2 l0_2.length c0_2]] rfl ?_; (with_reducible refine (pleachref19_Wrong.calls k a0_0 _ _ l0_1 _ _ l0_2 t279 _ ?side1 ?side2 ?side3 ?side4 A2.out).mono ?_); (case side1 => exact M.cB HR0_1 HB); (case side2 => exact HC0_1.out); (case side3 => exact M.cB HR0_2 HB); (case side4 => exact HC0_2.out); rintro e w7 ⟨rfl, hb⟩; refine ⟨_, rfl, ?_⟩; have n0_ := M.bkB zae hb; have n1_ := M.upS HB hb; clear zae HB; have zae := n0_; have HB := n1_; clear n0_ n1_; (try clear hb); obtain ⟨zan, zao, zap⟩ := M.bc3 (w := w7) (a := .int .i64 a0_0) (b := .slice A0_1 l0_1.length c0_1) (c := .slice A0_2 l0_2.length c0_2) zae.out; obtain ⟨zaq, zar, zas⟩ := M.bf3 zae))
    (try simp only [Act.put, List.setIfInBounds_toArray, List.set_cons_zero, List.set_cons_succ])
    go_cut [3] (fun v3 wc => ∃ (kq : Nat) (x3_3 : ByteArray), v3 = .string x3_3 ∧ Aside0 (pleachref19_Put.j0 kq x3_3 a0_0 l0_1 l0_2 = some r) ∧ Aside0 (kq ≤ k) ∧ Aside0 (wc.heap[zad]? = some (.cells #[.int .i64 a0_0, (.slice A0_1 l0_1.length c0_1), (.slice A0_2 l0_2.length c0_2)] 25 (0, 0))) ∧ Aside0 (Below w.heap.size w wc))
    case first =>
      have H := HC4.out
      clear HC4
      by_cases c9 : a0_0 > 0
      · rw [if_pos c9] at H
        have c9b0 : decide (0 < a0_0) = true := decide_eq_true c9
        clear c9
        (first | rw [c9b0] | (simp only [i64_w, i32_w]; rw [c9b0]) | skip)
        replace H := Option.bind_eq_some_iff.mp H
        obtain ⟨t280, A100, H⟩ := H
        replace H : (if 1 + t280.size ≤ 9223372036854775807 then (pleachref19_Put.j0 k ((⟨#[73]⟩ : ByteArray) ++ t280) a0_0 l0_1 l0_2) else (none)) = some r := H
        have A10 := Aside0.mk A100
        clear A100
        by_cases c11 : 1 + t280.size ≤ 9223372036854775807
        · rw [if_pos c11] at H
          have c11b0 := eq_true c11
          have c11b1 : decide (1 + t280.size ≤ 9223372036854775807) = true := decide_eq_true c11
          try have c11b2 : (9223372036854775807 < 1 + t280.size) = False := eq_false (Nat.not_lt.2 c11)
          have H' := Aside0.mk H
          clear H
          obtain ⟨zat, zau, zav⟩ := M.bc3 (w := w7) (a := .int .i64 a0_0) (b := .slice A0_1 l0_1.length c0_1) (c := .slice A0_2 l0_2.length c0_2) zae.out
          obtain ⟨zaw, zax, zay⟩ := M.bf3 zae
          go_wp2_with (first | ((with_reducible refine gate_callee (f := 41) rfl ?_); refine M.goes (some 13) Try.func41 #[.int .i64 a0_0] rfl ?_; (with_reducible refine (pleachref04_PutNum.calls a0_0 t280 _ A10.out).mono ?_); rintro e w13 ⟨rfl, hb⟩; refine ⟨_, rfl, ?_⟩; have n0_ := M.bkB zae hb; have n1_ := M.upS HB hb; clear zae HB; have zae := n0_; have HB := n1_; clear n0_ n1_; (try clear hb)))
          go_meet
          case rel => exact ⟨_, ((⟨#[73]⟩ : ByteArray) ++ t280), (by first | rfl | (simp; done) | (simp [*]; done) | (simp [M.isEmpty_bne]; done)), H', ⟨by first | omega | exact Nat.le_refl _⟩, ⟨by (with_reducible repeat (first | refine blk_drewN ?_ _ | refine blk_drew ?_ | refine blk_alloc ?_ _)); exact zae.out⟩, ⟨M.up HB⟩⟩
        · rw [if_neg c11] at H
          exact absurd H (by simp)
      · rw [if_neg c9] at H
        have c9b0 : decide (0 < a0_0) = false := decide_eq_false c9
        clear c9
        (first | rw [c9b0] | (simp only [i64_w, i32_w]; rw [c9b0]) | skip)
        have H' := Aside0.mk H
        clear H
        go_wp2
        go_meet
        case rel => exact ⟨_, ((⟨#[76]⟩ : ByteArray)), (by first | rfl | (simp; done) | (simp [*]; done) | (simp [M.isEmpty_bne]; done)), H', ⟨by first | omega | exact Nat.le_refl _⟩, ⟨by (with_reducible repeat (first | refine blk_drewN ?_ _ | refine blk_drew ?_ | refine blk_alloc ?_ _)); exact zae.out⟩, ⟨M.up HB⟩⟩
    case rest =>
      clear HC4
      try clear c1
      try clear c2
      try clear p2
      try clear c3
      try clear c3b0
      try clear c3b1
      try clear c4
      try clear c9
      try clear c9b0
      try clear c11
      try clear c11b0
      try clear c11b1
      try clear c11b2
      try clear zat
      try clear zau
      try clear zav
      try clear zah
      try clear zai
      try clear zaj
      try clear zan
      try clear zao
      try clear zap
      try clear zaw
      try clear zax
      try clear zay
      try clear zak
      try clear zal
      try clear zam
      try clear zaq
      try clear zar
      try clear zas
      obtain ⟨kq, x3_3, rfl, HA, HJ3, zae, HB⟩ := hcut
      cases kq with
      | zero => exact absurd HA.out (by simp [pleachref19_Put.j0])
      | succ kj3 =>
        have H := HA.out
        clear HA
        simp only [pleachref19_Put.j0] at H
        replace H := Option.bind_eq_some_iff.mp H
        obtain ⟨t281, A140, H⟩ := H
        replace H : (if x3_3.size + t281.size ≤ 9223372036854775807 then (pleachref19_Put.l0 kj3 (x3_3 ++ t281) 0 a0_0 l0_1 l0_2) else (none)) = some r := H
        have A14 := Aside0.mk A140
        clear A140
        by_cases c15 : x3_3.size + t281.size ≤ 9223372036854775807
        · rw [if_pos c15] at H
          have c15b0 := eq_true c15
          have c15b1 : decide (x3_3.size + t281.size ≤ 9223372036854775807) = true := decide_eq_true c15
          try have c15b2 : (9223372036854775807 < x3_3.size + t281.size) = False := eq_false (Nat.not_lt.2 c15)
          have H' := Aside0.mk H
          clear H
          obtain ⟨zaz, zaA, zaB⟩ := M.bc3 (w := wc) (a := .int .i64 a0_0) (b := .slice A0_1 l0_1.length c0_1) (c := .slice A0_2 l0_2.length c0_2) zae.out
          obtain ⟨zaC, zaD, zaE⟩ := M.bf3 zae
          go_wp2_with (first | ((with_reducible refine gate_callee (f := 41) rfl ?_); refine M.goes (some 19) Try.func41 #[.int .i64 (l0_1.length : Int)] rfl ?_; (with_reducible refine (pleachref04_PutNum.calls (l0_1.length : Int) t281 _ A14.out).mono ?_); rintro e w17 ⟨rfl, hb⟩; refine ⟨_, rfl, ?_⟩; have n0_ := M.bkB zae hb; have n1_ := M.upS HB hb; clear zae HB; have zae := n0_; have HB := n1_; clear n0_ n1_; (try clear hb)))
          go_loopg [3, 4] kj3 (fun kq v3 v4 w' => ∃ (x3_2 : ByteArray) (x4_2 : Int), v3 = .string x3_2 ∧ v4 = .int .i64 x4_2 ∧ Aside0 (pleachref19_Put.l0 kq x3_2 x4_2 a0_0 l0_1 l0_2 = some r) ∧ Aside0 (kq ≤ kj3) ∧ Aside0 (w'.heap[zad]? = some (.cells #[.int .i64 a0_0, (.slice A0_1 l0_1.length c0_1), (.slice A0_2 l0_2.length c0_2)] 25 (0, 0))) ∧ Aside0 (Below w.heap.size w w'))
          case atStart => exact ⟨(x3_3 ++ t281), (0), (by first | rfl | (simp; done) | (simp [*]; done) | (simp [M.isEmpty_bne]; done)), (by first | rfl | (simp; done) | (simp [*]; done) | (simp [M.isEmpty_bne]; done)), H', ⟨Nat.le_refl _⟩, ⟨by (with_reducible repeat (first | refine blk_drewN ?_ _ | refine blk_drew ?_ | refine blk_alloc ?_ _)); exact zae.out⟩, ⟨M.up HB⟩⟩
          case round =>
            clear H'
            try clear c1
            try clear c2
            try clear p2
            try clear c3
            try clear c3b0
            try clear c3b1
            try clear c4
            try clear c9
            try clear c9b0
            try clear c11
            try clear c11b0
            try clear c11b1
            try clear c11b2
            try clear c15
            try clear c15b0
            try clear c15b1
            try clear c15b2
            try clear zat
            try clear zau
            try clear zav
            try clear zaz
            try clear zaA
            try clear zaB
            try clear zah
            try clear zai
            try clear zaj
            try clear zan
            try clear zao
            try clear zap
            try clear zaw
            try clear zax
            try clear zay
            try clear zaC
            try clear zaD
            try clear zaE
            try clear zak
            try clear zal
            try clear zam
            try clear zaq
            try clear zar
            try clear zas
            try clear p2
            obtain ⟨x3_2, x4_2, rfl, rfl, HA, HK2, zae, HB⟩ := hrel
            cases gk with
            | zero => exact absurd HA.out (by simp [pleachref19_Put.l0])
            | succ k2 =>
              have H := HA.out
              clear HA
              simp only [pleachref19_Put.l0] at H
              by_cases c18 : x4_2 < (l0_1.length : Int)
              · rw [if_pos c18] at H
                have c18b0 : decide (x4_2 < (l0_1.length : Int)) = true := decide_eq_true c18
                clear c18
                by_cases c19 : 0 ≤ x4_2
                · rw [if_pos c19] at H
                  have c19b0 : decide (0 ≤ x4_2) = true := decide_eq_true c19
                  clear c19
                  replace H := Option.bind_eq_some_iff.mp H
                  obtain ⟨t283, A200, H⟩ := H
                  replace H : (if x3_2.size + t283.size ≤ 9223372036854775807 then (if a0_0 > 0 then (if (x3_2 ++ t283).size + ((rd_T29 l0_1 x4_2).f1).size ≤ 9223372036854775807 then (if x4_2 < (l0_2.length : Int) then ((pleachref04_PutNum.f (rd l0_2 x4_2)).bind fun t286 => (if ((x3_2 ++ t283) ++ ((rd_T29 l0_1 x4_2).f1)).size + t286.size ≤ 9223372036854775807 then (pleachref19_Put.l0 k2 (((x3_2 ++ t283) ++ ((rd_T29 l0_1 x4_2).f1)) ++ t286) (wrap64 (x4_2 + 1)) a0_0 l0_1 l0_2) else (none))) else (none)) else (none)) else ((pleachref04_PutText.f ((rd_T29 l0_1 x4_2).f1)).bind fun t288 => (if (x3_2 ++ t283).size + t288.size ≤ 9223372036854775807 then (pleachref19_Put.l0 k2 ((x3_2 ++ t283) ++ t288) (wrap64 (x4_2 + 1)) a0_0 l0_1 l0_2) else (none)))) else (none)) = some r := H
                  have A20 := Aside0.mk A200
                  clear A200
                  by_cases c21 : x3_2.size + t283.size ≤ 9223372036854775807
                  · rw [if_pos c21] at H
                    have c21b0 := eq_true c21
                    have c21b1 : decide (x3_2.size + t283.size ≤ 9223372036854775807) = true := decide_eq_true c21
                    try have c21b2 : (9223372036854775807 < x3_2.size + t283.size) = False := eq_false (Nat.not_lt.2 c21)
                    by_cases c22 : a0_0 > 0
                    · rw [if_pos c22] at H
                      have c22b0 : decide (0 < a0_0) = true := decide_eq_true c22
                      clear c22
                      by_cases c23 : (x3_2 ++ t283).size + ((rd_T29 l0_1 x4_2).f1).size ≤ 9223372036854775807
                      · rw [if_pos c23] at H
                        have c23b0 := eq_true c23
                        have c23b1 : decide ((x3_2 ++ t283).size + ((rd_T29 l0_1 x4_2).f1).size ≤ 9223372036854775807) = true := decide_eq_true c23
                        try have c23b2 : (9223372036854775807 < (x3_2 ++ t283).size + ((rd_T29 l0_1 x4_2).f1).size) = False := eq_false (Nat.not_lt.2 c23)
                        have c23m := c23
                        (try simp only [ByteArray.size_append] at c23m)
                        have c23b3 := eq_true c23m
                        have c23b4 := eq_false (Nat.not_lt.2 c23m)
                        have c23b5 := decide_eq_true c23m
                        by_cases c24 : x4_2 < (l0_2.length : Int)
                        · rw [if_pos c24] at H
                          have c24b0 : decide (x4_2 < (l0_2.length : Int)) = true := decide_eq_true c24
                          clear c24
                          replace H := Option.bind_eq_some_iff.mp H
                          obtain ⟨t286, A250, H⟩ := H
                          replace H : (if ((x3_2 ++ t283) ++ ((rd_T29 l0_1 x4_2).f1)).size + t286.size ≤ 9223372036854775807 then (pleachref19_Put.l0 k2 (((x3_2 ++ t283) ++ ((rd_T29 l0_1 x4_2).f1)) ++ t286) (wrap64 (x4_2 + 1)) a0_0 l0_1 l0_2) else (none)) = some r := H
                          have A25 := Aside0.mk A250
                          clear A250
                          by_cases c26 : ((x3_2 ++ t283) ++ ((rd_T29 l0_1 x4_2).f1)).size + t286.size ≤ 9223372036854775807
                          · rw [if_pos c26] at H
                            have c26b0 := eq_true c26
                            have c26b1 : decide (((x3_2 ++ t283) ++ ((rd_T29 l0_1 x4_2).f1)).size + t286.size ≤ 9223372036854775807) = true := decide_eq_true c26
                            try have c26b2 : (9223372036854775807 < ((x3_2 ++ t283) ++ ((rd_T29 l0_1 x4_2).f1)).size + t286.size) = False := eq_false (Nat.not_lt.2 c26)
                            have c26m := c26
                            (try simp only [ByteArray.size_append] at c26m)
                            have c26b3 := eq_true c26m
                            have c26b4 := eq_false (Nat.not_lt.2 c26m)
                            have c26b5 := decide_eq_true c26m
                            have H' := Aside0.mk H
                            clear H
                            obtain ⟨zaF, zaG, zaH⟩ := M.bc3 (w := wr) (a := .int .i64 a0_0) (b := .slice A0_1 l0_1.length c0_1) (c := .slice A0_2 l0_2.length c0_2) zae.out
                            obtain ⟨zaI, zaJ, zaK⟩ := M.bf3 zae
                            have p282 : 0 ≤ (x4_2 : Int) := of_decide_eq_true (by first | (with_reducible assumption) | assumption)
                            have q282 : x4_2 < (l0_1.length : Int) := of_decide_eq_true (by first | (with_reducible assumption) | assumption)
                            obtain ⟨ad282, e282, hx282_0, hx282_1⟩ := at_T29 HR0_1.out x4_2 p282 q282
                            cases e282
                            replace hx282_0 := (HB.out.cell (World.block_lt_of_cell? w _ hx282_0)).trans hx282_0
                            replace hx282_1 := (HB.out.cell (World.block_lt_of_cell? w _ hx282_1)).trans hx282_1
                            replace p282 := eq_true p282
                            replace q282 := eq_true q282
                            try go_wp2_with (first | ((with_reducible refine gate_callee (f := 42) rfl ?_); refine M.goes (some 35) Try.func42 #[.string ((rd_T29 l0_1 x4_2).f0)] rfl ?_; (with_reducible refine (pleachref04_PutText.calls ((rd_T29 l0_1 x4_2).f0) t283 _ A20.out).mono ?_); rintro e w28 ⟨rfl, hb⟩; refine ⟨_, rfl, ?_⟩; have n0_ := M.bkB zae hb; have n1_ := M.upS HB hb; clear zae HB; have zae := n0_; have HB := n1_; clear n0_ n1_; (try clear hb); obtain ⟨zaL, zaM, zaN⟩ := M.bc3 (w := w28) (a := .int .i64 a0_0) (b := .slice (some ad282) l0_1.length c0_1) (c := .slice A0_2 l0_2.length c0_2) zae.out; obtain ⟨zaO, zaP, zaQ⟩ := M.bf3 zae))
                            have n0_ := Aside0.mk (blk_drew zae.out)
                            have n1_ := Aside0.mk (below_drew1 HB.out)
                            clear zae HB
                            have zae := n0_
                            have HB := n1_
                            clear n0_ n1_
                            have p284 : 0 ≤ (x4_2 : Int) := of_decide_eq_true (by first | (with_reducible assumption) | assumption)
                            have q284 : x4_2 < (l0_1.length : Int) := of_decide_eq_true (by first | (with_reducible assumption) | assumption)
                            obtain ⟨ad284, e284, hx284_0, hx284_1⟩ := at_T29 HR0_1.out x4_2 p284 q284
                            have hw284_1 := hx284_1
                            have hw284_0 := hx284_0
                            obtain rfl : ad282 = ad284 := (by injection e284)
                            replace hx284_0 := (HB.out.cell (World.block_lt_of_cell? w _ hx284_0)).trans hx284_0
                            replace hx284_1 := (HB.out.cell (World.block_lt_of_cell? w _ hx284_1)).trans hx284_1
                            replace p284 := eq_true p284
                            replace q284 := eq_true q284
                            have p285 : 0 ≤ (x4_2 : Int) := of_decide_eq_true (by first | (with_reducible assumption) | assumption)
                            have q285 : x4_2 < (l0_2.length : Int) := of_decide_eq_true (by first | (with_reducible assumption) | assumption)
                            obtain ⟨ad285, e285, hx285_0⟩ := Kd.at_int HR0_2.out x4_2 p285 q285
                            have hw285_0 := hx285_0
                            cases e285
                            replace hx285_0 := (HB.out.cell (World.block_lt_of_cell? w _ hx285_0)).trans hx285_0
                            replace p285 := eq_true p285
                            replace q285 := eq_true q285
                            refine start_ (n := 16) (S := fun w' => w'.cell? ⟨zad, 0, none⟩ = some (.int .i64 a0_0) ∧ w'.cell? ⟨zad, 1, none⟩ = some (.slice (some ad282) l0_1.length c0_1) ∧ w'.cell? ⟨zad, 2, none⟩ = some (.slice (some ad285) l0_2.length c0_2) ∧ w'.cell? (ad282.add ((x4_2).toNat * 2)) = some (.string ((rd_T29 l0_1 x4_2).f0)) ∧ w'.cell? ⟨(ad282.add ((x4_2).toNat * 2)).block, (ad282.add ((x4_2).toNat * 2)).off + 1, none⟩ = some (.string ((rd_T29 l0_1 x4_2).f1)) ∧ w'.cell? (ad285.add (x4_2).toNat) = some (.int .i64 (rd l0_2 x4_2))) (ds := []) (M.tf [0, 16]) (by kernel_rfl) rfl rfl ⟨(blk_cell zae.out 0).trans rfl, (blk_cell zae.out 1).trans rfl, (blk_cell zae.out 2).trans rfl, ((HB.out.cell (World.block_lt_of_cell? w _ hw284_0)).trans hw284_0), ((HB.out.cell (World.block_lt_of_cell? w _ hw284_1)).trans hw284_1), ((HB.out.cell (World.block_lt_of_cell? w _ hw285_0)).trans hw285_0)⟩ (fun hHeld => ?_); refine with_tabW pleachref19_Put.tab12 pleachref19_Put.bits12 (fun HT_ HW_ => ?_)
                            generalize w28.drew = w30 at zae HB hx284_0 hx284_1 hx285_0 hHeld ⊢
                            refine pure_ (i := 0) (N := some 40) (v := ?_) (a' := ?_) (M.tf [1, 15]) rfl rfl (any_of HT_.out (by kernel_rfl)) (fun _ _ _ h => h) (Or.inl ⟨by rfl, ?_⟩) ?_ ?_
                            rotate_left
                            · intro w'
                              go_simp
                              with_reducible rfl
                            rotate_left
                            · simp only [Act.put, List.setIfInBounds_toArray, List.set_cons_zero, List.set_cons_succ, i64_w, i32_w]
                              rfl
                            refine pure_ (i := 1) (N := some 41) (v := ?_) (a' := ?_) (M.tf [2, 14]) rfl rfl (any_of HT_.out (by kernel_rfl)) (fun _ _ _ h => h) (Or.inl ⟨by rfl, ?_⟩) ?_ ?_
                            rotate_left
                            · intro w'
                              go_simp
                              with_reducible rfl
                            rotate_left
                            · simp only [Act.put, List.setIfInBounds_toArray, List.set_cons_zero, List.set_cons_succ, i64_w, i32_w]
                              rfl
                            refine pure_ (i := 3) (N := some 43) (v := ?_) (a' := ?_) (M.tf [2, 1, 1, 12]) rfl rfl (any_of HT_.out (by kernel_rfl)) (fun _ _ _ h => h) (Or.inl ⟨by rfl, ?_⟩) ?_ ?_
                            rotate_left
                            · intro w'
                              go_simp
                              with_reducible rfl
                            rotate_left
                            · simp only [Act.put, List.setIfInBounds_toArray, List.set_cons_zero, List.set_cons_succ, i64_w, i32_w]
                              rfl
                            refine pure_ (i := 8) (N := some 48) (v := ?_) (a' := ?_) (M.tf [2, 1, 1, 4, 1, 7]) rfl rfl (any_of HT_.out (by kernel_rfl)) (fun _ _ _ h => h) (Or.inl ⟨by rfl, ?_⟩) ?_ ?_
                            rotate_left
                            · intro w'
                              go_simp
                              with_reducible rfl
                            rotate_left
                            · simp only [Act.put, List.setIfInBounds_toArray, List.set_cons_zero, List.set_cons_succ, i64_w, i32_w]
                              rfl
                            refine pure_ (i := 10) (N := some 50) (v := ?_) (a' := ?_) (M.tf [2, 1, 1, 4, 1, 1, 1, 5]) rfl rfl (any_of HT_.out (by kernel_rfl)) (fun _ _ _ h => h) (Or.inl ⟨by rfl, ?_⟩) ?_ ?_
                            rotate_left
                            · intro w'
                              go_simp
                              with_reducible rfl
                            rotate_left
                            · simp only [Act.put, List.setIfInBounds_toArray, List.set_cons_zero, List.set_cons_succ, i64_w, i32_w]
                              rfl
                            refine take_ (i := 2) (N := some 42) (v := ?_) (a' := ?_) (M.tf [4, 4, 1, 1, 1, 5]) rfl rfl (take_ofW HT_.out HW_.out (by kernel_rfl)) (fun _ _ _ h => h) (Or.inl ⟨by rfl, ?_⟩) hHeld ?_ ?_
                            rotate_left
                            · rintro w' ⟨s0, s1, s2, s3, s4, s5⟩
                              go_simp
                              with_reducible rfl
                            rotate_left
                            · simp only [Act.put, List.setIfInBounds_toArray, List.set_cons_zero, List.set_cons_succ, i64_w, i32_w]
                              rfl
                            refine pure_ (i := 4) (N := some 44) (v := ?_) (a' := ?_) (M.tf [5, 3, 1, 1, 1, 5]) rfl rfl (any_of HT_.out (by kernel_rfl)) (fun _ _ _ h => h) (Or.inl ⟨by rfl, ?_⟩) ?_ ?_
                            rotate_left
                            · intro w'
                              go_simp
                              with_reducible rfl
                            rotate_left
                            · simp only [Act.put, List.setIfInBounds_toArray, List.set_cons_zero, List.set_cons_succ, i64_w, i32_w]
                              rfl
                            refine pure_ (i := 5) (N := some 45) (v := ?_) (a' := ?_) (M.tf [6, 2, 1, 1, 1, 5]) rfl rfl (any_of HT_.out (by kernel_rfl)) (fun _ _ _ h => h) (Or.inl ⟨by rfl, ?_⟩) ?_ ?_
                            rotate_left
                            · intro w'
                              go_simp
                              with_reducible rfl
                            rotate_left
                            · simp only [Act.put, List.setIfInBounds_toArray, List.set_cons_zero, List.set_cons_succ, i64_w, i32_w]
                              rfl
                            refine take_ (i := 6) (N := some 46) (v := ?_) (a' := ?_) (M.tf [7, 1, 1, 1, 1, 5]) rfl rfl (take_ofW HT_.out HW_.out (by kernel_rfl)) (fun _ _ _ h => h) (Or.inl ⟨by rfl, ?_⟩) hHeld ?_ ?_
                            rotate_left
                            · rintro w' ⟨s0, s1, s2, s3, s4, s5⟩
                              go_simp
                              with_reducible rfl
                            rotate_left
                            · simp only [Act.put, List.setIfInBounds_toArray, List.set_cons_zero, List.set_cons_succ, i64_w, i32_w]
                              rfl
                            refine pure_ (i := 7) (N := some 47) (v := ?_) (a' := ?_) (M.tf [9, 1, 1, 5]) rfl rfl (any_of HT_.out (by kernel_rfl)) (fun _ _ _ h => h) (Or.inl ⟨by rfl, ?_⟩) ?_ ?_
                            rotate_left
                            · intro w'
                              go_simp
                              with_reducible rfl
                            rotate_left
                            · simp only [Act.put, List.setIfInBounds_toArray, List.set_cons_zero, List.set_cons_succ, i64_w, i32_w]
                              rfl
                            refine take_ (i := 9) (N := some 49) (v := ?_) (a' := ?_) (M.tf [11, 5]) rfl rfl (take_ofW HT_.out HW_.out (by kernel_rfl)) (fun _ _ _ h => h) (Or.inl ⟨by rfl, ?_⟩) hHeld ?_ ?_
                            rotate_left
                            · rintro w' ⟨s0, s1, s2, s3, s4, s5⟩
                              go_simp
                              with_reducible rfl
                            rotate_left
                            · simp only [Act.put, List.setIfInBounds_toArray, List.set_cons_zero, List.set_cons_succ, i64_w, i32_w]
                              rfl
                            refine pure_ (i := 11) (N := some 51) (v := ?_) (a' := ?_) (M.tf [12, 4]) rfl rfl (any_of HT_.out (by kernel_rfl)) (fun _ _ _ h => h) (Or.inl ⟨by rfl, ?_⟩) ?_ ?_
                            rotate_left
                            · intro w'
                              go_simp
                              with_reducible rfl
                            rotate_left
                            · simp only [Act.put, List.setIfInBounds_toArray, List.set_cons_zero, List.set_cons_succ, i64_w, i32_w]
                              rfl
                            refine take_ (i := 12) (N := some 52) (v := ?_) (a' := ?_) (M.tf [13, 3]) rfl rfl (take_ofW HT_.out HW_.out (by kernel_rfl)) (fun _ _ _ h => h) (Or.inl ⟨by rfl, ?_⟩) hHeld ?_ ?_
                            rotate_left
                            · rintro w' ⟨s0, s1, s2, s3, s4, s5⟩
                              go_simp
                              with_reducible rfl
                            rotate_left
                            · simp only [Act.put, List.setIfInBounds_toArray, List.set_cons_zero, List.set_cons_succ, i64_w, i32_w]
                              rfl
                            refine one_ (i := 13) (N := some 53) (M.tf [14, 2]) rfl rfl (one_of HT_.out (by kernel_rfl)) (by decide) (fun K hK => ?_)
                            refine goes_ Try.func41 (by kernel_rfl) rfl #[.int .i64 (rd l0_2 x4_2)] (by rfl) rfl rfl (by (try simp only [List.map_toArray, List.map_cons, List.map_nil]); first | done | rfl | (simp only [List.length_drop, List.length_take]; rfl)) ?_
                            with_reducible refine (pleachref04_PutNum.calls (rd l0_2 x4_2) t286 _ A25.out).mono ?_
                            rintro e w31 ⟨rfl, hb⟩
                            refine ⟨_, rfl, ?_⟩
                            have n0_ := M.bkB zae hb
                            have n1_ := M.upS HB hb
                            clear zae HB
                            have zae := n0_
                            have HB := n1_
                            clear n0_ n1_
                            (try clear hb)
                            (try clear hb2)
                            (try clear hk)
                            (try clear hi)
                            refine hK.out _ _ ⟨(blk_cell zae.out 0).trans rfl, (blk_cell zae.out 1).trans rfl, (blk_cell zae.out 2).trans rfl, ((HB.out.cell (World.block_lt_of_cell? w _ hw284_0)).trans hw284_0), ((HB.out.cell (World.block_lt_of_cell? w _ hw284_1)).trans hw284_1), ((HB.out.cell (World.block_lt_of_cell? w _ hw285_0)).trans hw285_0)⟩ (fun hHeld => ?_)
                            clear hK K
                            refine norm_ (a' := ?_) ?_ ?_
                            rotate_left
                            · show Act.put _ (some 53) _ = _
                              simp only [Act.put, List.setIfInBounds_toArray, List.set_cons_zero, List.set_cons_succ, i64_w, i32_w]
                              rfl
                            refine pure_ (i := 14) (N := some 54) (v := ?_) (a' := ?_) (M.tf [15, 1]) rfl rfl (any_of HT_.out (by kernel_rfl)) (fun _ _ _ h => h) (Or.inl ⟨by rfl, ?_⟩) ?_ ?_
                            rotate_left
                            · intro w'
                              go_simp
                              with_reducible rfl
                            rotate_left
                            · simp only [Act.put, List.setIfInBounds_toArray, List.set_cons_zero, List.set_cons_succ, i64_w, i32_w]
                              rfl
                            refine pure_ (i := 15) (N := some 3) (v := ?_) (a' := ?_) (M.tf [16]) rfl rfl (any_of HT_.out (by kernel_rfl)) (fun _ _ _ h => h) (Or.inl ⟨by rfl, ?_⟩) ?_ ?_
                            rotate_left
                            · intro w'
                              go_simp
                              with_reducible rfl
                            rotate_left
                            · simp only [Act.put, List.setIfInBounds_toArray, List.set_cons_zero, List.set_cons_succ, i64_w, i32_w]
                              rfl
                            refine done_ (done_of HT_.out (by kernel_rfl)) ?_
                            try go_wp2
                            go_roundg k2
                            case measure => have := HJ3.out; have := HK2.out; omega
                            case rel => exact ⟨(((x3_2 ++ t283) ++ ((rd_T29 l0_1 x4_2).f1)) ++ t286), (wrap64 (x4_2 + 1)), (by first | rfl | (simp; done) | (simp [*]; done) | (simp [M.isEmpty_bne]; done)), (by first | rfl | (simp; done) | (simp [*]; done) | (simp [M.isEmpty_bne]; done)), H', ⟨by have := HJ3.out; have := HK2.out; omega⟩, ⟨by (with_reducible repeat (first | refine blk_drewN ?_ _ | refine blk_drew ?_ | refine blk_alloc ?_ _)); exact zae.out⟩, ⟨M.up HB⟩⟩
                          · rw [if_neg c26] at H
                            exact absurd H (by simp)
                        · rw [if_neg c24] at H
                          exact absurd H (by simp)
                      · rw [if_neg c23] at H
                        exact absurd H (by simp)
                    · rw [if_neg c22] at H
                      have c22b0 : decide (0 < a0_0) = false := decide_eq_false c22
                      clear c22
                      replace H := Option.bind_eq_some_iff.mp H
                      obtain ⟨t288, A320, H⟩ := H
                      replace H : (if (x3_2 ++ t283).size + t288.size ≤ 9223372036854775807 then (pleachref19_Put.l0 k2 ((x3_2 ++ t283) ++ t288) (wrap64 (x4_2 + 1)) a0_0 l0_1 l0_2) else (none)) = some r := H
                      have A32 := Aside0.mk A320
                      clear A320
                      by_cases c33 : (x3_2 ++ t283).size + t288.size ≤ 9223372036854775807
                      · rw [if_pos c33] at H
                        have c33b0 := eq_true c33
                        have c33b1 : decide ((x3_2 ++ t283).size + t288.size ≤ 9223372036854775807) = true := decide_eq_true c33
                        try have c33b2 : (9223372036854775807 < (x3_2 ++ t283).size + t288.size) = False := eq_false (Nat.not_lt.2 c33)
                        have c33m := c33
                        (try simp only [ByteArray.size_append] at c33m)
                        have c33b3 := eq_true c33m
                        have c33b4 := eq_false (Nat.not_lt.2 c33m)
                        have c33b5 := decide_eq_true c33m
                        have H' := Aside0.mk H
                        clear H
                        obtain ⟨zaR, zaS, zaT⟩ := M.bc3 (w := wr) (a := .int .i64 a0_0) (b := .slice A0_1 l0_1.length c0_1) (c := .slice A0_2 l0_2.length c0_2) zae.out
                        obtain ⟨zaU, zaV, zaW⟩ := M.bf3 zae
                        have p282 : 0 ≤ (x4_2 : Int) := of_decide_eq_true (by first | (with_reducible assumption) | assumption)
                        have q282 : x4_2 < (l0_1.length : Int) := of_decide_eq_true (by first | (with_reducible assumption) | assumption)
                        obtain ⟨ad282, e282, hx282_0, hx282_1⟩ := at_T29 HR0_1.out x4_2 p282 q282
                        cases e282
                        replace hx282_0 := (HB.out.cell (World.block_lt_of_cell? w _ hx282_0)).trans hx282_0
                        replace hx282_1 := (HB.out.cell (World.block_lt_of_cell? w _ hx282_1)).trans hx282_1
                        replace p282 := eq_true p282
                        replace q282 := eq_true q282
                        go_wp2_with (first | ((with_reducible refine gate_callee (f := 42) rfl ?_); refine M.goes (some 35) Try.func42 #[.string ((rd_T29 l0_1 x4_2).f0)] rfl ?_; (with_reducible refine (pleachref04_PutText.calls ((rd_T29 l0_1 x4_2).f0) t283 _ A20.out).mono ?_); rintro e w35 ⟨rfl, hb⟩; refine ⟨_, rfl, ?_⟩; have n0_ := M.bkB zae hb; have n1_ := M.upS HB hb; clear zae HB; have zae := n0_; have HB := n1_; clear n0_ n1_; (try clear hb); obtain ⟨zaX, zaY, zaZ⟩ := M.bc3 (w := w35) (a := .int .i64 a0_0) (b := .slice (some ad282) l0_1.length c0_1) (c := .slice A0_2 l0_2.length c0_2) zae.out; obtain ⟨za0, za1, za2⟩ := M.bf3 zae; have p287 : 0 ≤ (x4_2 : Int) := of_decide_eq_true (by first | (with_reducible assumption) | assumption); have q287 : x4_2 < (l0_1.length : Int) := of_decide_eq_true (by first | (with_reducible assumption) | assumption); obtain ⟨ad287, e287, hx287_0, hx287_1⟩ := at_T29 HR0_1.out x4_2 p287 q287; obtain rfl : ad282 = ad287 := (by injection e287); replace hx287_0 := (HB.out.cell (World.block_lt_of_cell? w _ hx287_0)).trans hx287_0; replace hx287_1 := (HB.out.cell (World.block_lt_of_cell? w _ hx287_1)).trans hx287_1; replace p287 := eq_true p287; replace q287 := eq_true q287) | ((with_reducible refine gate_callee (f := 42) rfl ?_); refine M.goes (some 62) Try.func42 #[.string ((rd_T29 l0_1 x4_2).f1)] rfl ?_; (with_reducible refine (pleachref04_PutText.calls ((rd_T29 l0_1 x4_2).f1) t288 _ A32.out).mono ?_); rintro e w37 ⟨rfl, hb⟩; refine ⟨_, rfl, ?_⟩; have n0_ := M.bkB zae hb; have n1_ := M.upS HB hb; clear zae HB; have zae := n0_; have HB := n1_; clear n0_ n1_; (try clear hb)))
                        go_roundg k2
                        case measure => have := HJ3.out; have := HK2.out; omega
                        case rel => exact ⟨((x3_2 ++ t283) ++ t288), (wrap64 (x4_2 + 1)), (by first | rfl | (simp; done) | (simp [*]; done) | (simp [M.isEmpty_bne]; done)), (by first | rfl | (simp; done) | (simp [*]; done) | (simp [M.isEmpty_bne]; done)), H', ⟨by have := HJ3.out; have := HK2.out; omega⟩, ⟨by (with_reducible repeat (first | refine blk_drewN ?_ _ | refine blk_drew ?_ | refine blk_alloc ?_ _)); exact zae.out⟩, ⟨M.up HB⟩⟩
                      · rw [if_neg c33] at H
                        exact absurd H (by simp)
                  · rw [if_neg c21] at H
                    exact absurd H (by simp)
                · rw [if_neg c19] at H
                  exact absurd H (by simp)
              · rw [if_neg c18] at H
                have c18b0 : decide (x4_2 < (l0_1.length : Int)) = false := decide_eq_false c18
                clear c18
                obtain rfl := Option.some.inj H
                obtain ⟨za3, za4, za5⟩ := M.bc3 (w := wr) (a := .int .i64 a0_0) (b := .slice A0_1 l0_1.length c0_1) (c := .slice A0_2 l0_2.length c0_2) zae.out
                obtain ⟨za6, za7, za8⟩ := M.bf3 zae
                go_wp2
                go_ret
                exact M.fin (M.up HB)
        · rw [if_neg c15] at H
          exact absurd H (by simp)
  · rw [if_neg c3] at H
    have c3b0 : (t279 == 0) = false := beq_eq_false_iff_ne.mpr c3
    have c3b1 : (t279 != 0) = true := bne_iff_ne.mpr c3
    obtain rfl := Option.some.inj H
    go_enter Try.func29, Try.ntmps29
    go_wp2_with (first | ((with_reducible refine gate_dst (N := 1) rfl ?_); refine box_event ?hg (N := 1) ?hd (cs := #[.int .i64 a0_0, .slice A0_1 l0_1.length c0_1, .slice A0_2 l0_2.length c0_2]) (t := 25) ?hr ?_; (case hd => rfl); (case hg => rfl); (case hr => first | (go_simp; done) | (go_simp; rfl)); intro zad hg w39 hbox hb; have n0_ := M.upS HB hb; have n1_ := Aside0.mk (hbox); have n2_ := M.upG HB hg; have n3_ := M.upG HB hg; clear HB; have HB := n0_; have zae := n1_; have zaf := n2_; have zag := n3_; clear n0_ n1_ n2_ n3_; clear hb hbox hg; obtain ⟨za9, zba, zbb⟩ := M.bc3 (w := w39) (a := .int .i64 a0_0) (b := .slice A0_1 l0_1.length c0_1) (c := .slice A0_2 l0_2.length c0_2) zae.out; obtain ⟨zbc, zbd, zbe⟩ := M.bf3 zae) | ((with_reducible refine gate_callee (f := 40) rfl ?_); refine M.goes (some 6) Try.func40 #[.agg #[.int .i64 a0_0, .slice A0_1 l0_1.length c0_1, .slice A0_2 l0_2.length c0_2]] rfl ?_; (with_reducible refine (pleachref19_Wrong.calls k a0_0 _ _ l0_1 _ _ l0_2 t279 _ ?side1 ?side2 ?side3 ?side4 A2.out).mono ?_); (case side1 => exact M.cB HR0_1 HB); (case side2 => exact HC0_1.out); (case side3 => exact M.cB HR0_2 HB); (case side4 => exact HC0_2.out); rintro e w41 ⟨rfl, hb⟩; refine ⟨_, rfl, ?_⟩; have n0_ := M.bkB zae hb; have n1_ := M.upS HB hb; clear zae HB; have zae := n0_; have HB := n1_; clear n0_ n1_; (try clear hb)))
    go_ret
    exact M.fin (M.up HB)

end Go.Proofs.Ytccppdpmfegndaa.EChunkTakes
