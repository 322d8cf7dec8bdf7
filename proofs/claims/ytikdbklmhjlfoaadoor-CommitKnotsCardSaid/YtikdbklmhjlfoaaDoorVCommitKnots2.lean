-- Laid by this session's own program (wip/tools/fold.py): this session's texts, cut to what the claim names and put together; Lean checks it.
import Derived.Test.YtikdbklmhjlfoaaDoorVCommitKnots1
import Derived.Test.YtikdbklmhjlfoaaDoorXCommitKnots1
namespace Go.Proofs.YtikdbklmhjlfoaaDoor.ECommitKnots
open Go.RowKit Go.Proofs.YtikdbklmhjlfoaaDoorW.PrintWords Go.Proofs.YtikdbklmhjlfoaaDoorW.PrintLast Go.Proofs.YtikdbklmhjlfoaaDoorW.PrintMore
attribute [local go_sem] M.run_leq M.run_gtr M.run_geq max2_int min2_int max_two min_two max_three min_three max_four min_four
set_option linter.unusedVariables false
set_option linter.unusedSimpArgs false
def scan_Scan_Byte_p.f (s0_0 : ByteArray) (s0_1 : Int) (s0_2 : Int) (s0_3 : Bool) : Option (Int × ByteArray × Int × Int × Bool) := (scan_Scan_take.f s0_0 s0_1 s0_2 s0_3 1).bind fun bt110 => (if bt110.1.toList = ([] : List UInt8) then (some (0, bt110.2.1, bt110.2.2.1, bt110.2.2.2.1, bt110.2.2.2.2)) else (if 0 < (bt110.1.size : Int) then (some (wrap64 (bt bt110.1 0), bt110.2.1, bt110.2.2.1, bt110.2.2.2.1, bt110.2.2.2.2)) else (none)))
set_option maxHeartbeats 8000000 in
set_option maxRecDepth 100000 in
theorem scan_Scan_Byte_p.calls (g : Nat) (s0_0 : ByteArray) (s0_1 : Int) (s0_2 : Int) (s0_3 : Bool) (r1 : Int) (r2 : ByteArray) (r3 : Int) (r4 : Int) (r5 : Bool) (w0 w : World) (hI : IsS100 w0 w g s0_0 s0_1 s0_2 s0_3) (hB : Below w0.heap.size w0 w) (h : scan_Scan_Byte_p.f s0_0 s0_1 s0_2 s0_3 = some (r1, r2, r3, r4, r5)) :
    Calls Tryd.prog 31 #[.pointer (some ⟨g, 0, none⟩)] w fun e w' => e = .returned (.int .i64 r1) ∧ IsS100 w0 w' g r2 r3 r4 r5 ∧ Below w0.heap.size w0 w' ∧ KeepBut w w' g none := by
 have HI0 := Aside0.mk hI
 have HK := Aside0.mk (KeepBut.refl w g none)
 have HL := Aside0.mk hB.size
 clear hI
 have HW0 := Aside0.mk hB.size
 have HB := Aside0.mk hB
 clear hB
 have H : ((scan_Scan_take.f s0_0 s0_1 s0_2 s0_3 1).bind fun bt110 => (if bt110.1.toList = ([] : List UInt8) then (some (0, bt110.2.1, bt110.2.2.1, bt110.2.2.2.1, bt110.2.2.2.2)) else (if 0 < (bt110.1.size : Int) then (some (wrap64 (bt bt110.1 0), bt110.2.1, bt110.2.2.1, bt110.2.2.2.1, bt110.2.2.2.2)) else (none)))) = some (r1, r2, r3, r4, r5) := h
 clear h
 replace H := Option.bind_eq_some_iff.mp H
 obtain ⟨⟨t110, t111, t112, t113, t114⟩, A20, H⟩ := H
 replace H : (if t110.toList = ([] : List UInt8) then (some (0, t111, t112, t113, t114)) else (if 0 < (t110.size : Int) then (some (wrap64 (bt t110 0), t111, t112, t113, t114)) else (none))) = some (r1, r2, r3, r4, r5) := H
 have A2 := Aside0.mk A20
 clear A20
 by_cases c3 : t110.toList = ([] : List UInt8)
 ·rw [if_pos c3] at H
  have c3b0 : (t110.toList == ([] : List UInt8)) = true := beq_iff_eq.mpr c3
  have c3b1 : (t110.toList != ([] : List UInt8)) = false := bne_eq_false_iff_eq.mpr c3
  clear c3
  simp only [Option.some.injEq, Prod.mk.injEq] at H
  obtain ⟨rfl, rfl, rfl, rfl, rfl⟩ := H
  go_enter Tryd.func31, Tryd.ntmps31
  go_wp2_with (first | ((with_reducible refine gate_callee (f := 53) rfl ?_); refine M.goes (some 5) Tryd.func53 #[.pointer (some ⟨g, 0, none⟩), .int .i64 1] rfl ?_; (with_reducible refine (scan_Scan_take.calls g s0_0 s0_1 s0_2 s0_3 1 t110 t111 t112 t113 t114 w0 _ ?side1 ?side2 A2.out).mono ?_); (case side1 => repeat (first | (with_reducible first | exact HI0.out | apply IsS100.alloc | apply IsS100.drewN | apply IsS100.drew | apply IsS100.set_0 | apply IsS100.set_1 | apply IsS100.set_2 | apply IsS100.set_3) | exact HI0.out)); (case side2 => repeat (first | (with_reducible first | exact HB.out | apply below_alloc | apply pw_below_drewN | apply below_drew1 | refine below_set ?_ (IsS100.ge HI0.out)) | exact HB.out)); rintro e w4 ⟨rfl, hi, hb, hk⟩; refine ⟨_, rfl, ?_⟩; replace HK := Aside0.mk (KeepBut.trans (by repeat (first | (with_reducible first | exact HK.out | apply KeepBut.set_ | apply keep_drewN | apply keep_drew | apply keep_alloc) | exact HK.out)) hk (.inl rfl)); replace HB := Aside0.mk (hb); replace HI0 := Aside0.mk (hi); (try clear hb); (try clear hk); (try clear hi)))
  go_ret
  exact ⟨M.eqe, by repeat (first | (with_reducible first | exact HI0.out | apply IsS100.alloc | apply IsS100.drewN | apply IsS100.drew | apply IsS100.set_0 | apply IsS100.set_1 | apply IsS100.set_2 | apply IsS100.set_3) | exact HI0.out), by repeat (first | (with_reducible first | exact HB.out | apply below_alloc | apply pw_below_drewN | apply below_drew1 | refine below_set ?_ (IsS100.ge HI0.out)) | exact HB.out), by repeat (first | (with_reducible first | exact HK.out | apply KeepBut.set_ | apply keep_drewN | apply keep_drew | apply keep_alloc) | exact HK.out)⟩
 ·rw [if_neg c3] at H
  have c3b0 : (t110.toList == ([] : List UInt8)) = false := beq_eq_false_iff_ne.mpr c3
  have c3b1 : (t110.toList != ([] : List UInt8)) = true := bne_iff_ne.mpr c3
  by_cases c5 : 0 < (t110.size : Int)
  ·rw [if_pos c5] at H
   have c5b0 := decide_eq_true c5
   have c5b1 : decide (0 < t110.size) = true := decide_eq_true (by omega)
   clear c5
   simp only [Option.some.injEq, Prod.mk.injEq] at H
   obtain ⟨rfl, rfl, rfl, rfl, rfl⟩ := H
   go_enter Tryd.func31, Tryd.ntmps31
   go_wp2_with (first | ((with_reducible refine gate_callee (f := 53) rfl ?_); refine M.goes (some 5) Tryd.func53 #[.pointer (some ⟨g, 0, none⟩), .int .i64 1] rfl ?_; (with_reducible refine (scan_Scan_take.calls g s0_0 s0_1 s0_2 s0_3 1 t110 t111 t112 t113 t114 w0 _ ?side1 ?side2 A2.out).mono ?_); (case side1 => repeat (first | (with_reducible first | exact HI0.out | apply IsS100.alloc | apply IsS100.drewN | apply IsS100.drew | apply IsS100.set_0 | apply IsS100.set_1 | apply IsS100.set_2 | apply IsS100.set_3) | exact HI0.out)); (case side2 => repeat (first | (with_reducible first | exact HB.out | apply below_alloc | apply pw_below_drewN | apply below_drew1 | refine below_set ?_ (IsS100.ge HI0.out)) | exact HB.out)); rintro e w7 ⟨rfl, hi, hb, hk⟩; refine ⟨_, rfl, ?_⟩; replace HK := Aside0.mk (KeepBut.trans (by repeat (first | (with_reducible first | exact HK.out | apply KeepBut.set_ | apply keep_drewN | apply keep_drew | apply keep_alloc) | exact HK.out)) hk (.inl rfl)); replace HB := Aside0.mk (hb); replace HI0 := Aside0.mk (hi); (try clear hb); (try clear hk); (try clear hi); have p6 : 0 ≤ (0 : Int) := (by omega); have q6 : 0 < t110.size := (by have : (0 : Int) < (t110.size : Int) := M.dt; omega); have hx6 : ∀ h : 0 < t110.size, ((t110[0]'h).toNat : Int) = bt t110 0 := bt_at t110 0; clear p6; have qi6 : (0 < (t110.size : Int)) = True := eq_true (M.dt); replace q6 := eq_true q6))
   go_ret
   exact ⟨M.eqe, by repeat (first | (with_reducible first | exact HI0.out | apply IsS100.alloc | apply IsS100.drewN | apply IsS100.drew | apply IsS100.set_0 | apply IsS100.set_1 | apply IsS100.set_2 | apply IsS100.set_3) | exact HI0.out), by repeat (first | (with_reducible first | exact HB.out | apply below_alloc | apply pw_below_drewN | apply below_drew1 | refine below_set ?_ (IsS100.ge HI0.out)) | exact HB.out), by repeat (first | (with_reducible first | exact HK.out | apply KeepBut.set_ | apply keep_drewN | apply keep_drew | apply keep_alloc) | exact HK.out)⟩
  ·exact M.nf c5 H
def scan_Scan_Byte.f (s0_0 : ByteArray) (s0_1 : Int) (s0_2 : Int) (s0_3 : Bool) : Option (Int × ByteArray × Int × Int × Bool) :=
  if s0_3 = true then (if M.sok s0_0 s0_1 then some ((M.xbyte s0_0 s0_1 s0_2).1, s0_0, (M.xbyte s0_0 s0_1 s0_2).2.1, (M.xbyte s0_0 s0_1 s0_2).2.2, true) else none) else some (0, s0_0, s0_1, s0_2, s0_3)
theorem scan_Scan_Byte.ev (s : ByteArray) (p er : Int) (md : Bool) (r : Int × ByteArray × Int × Int × Bool) (h : scan_Scan_Byte.f s p er md = some r) : scan_Scan_Byte_p.f s p er md = some r := by
 unfold scan_Scan_Byte.f at h
 have hnil : (M.sb []).toList = ([] : List UInt8) := by rw [M.toList_bs]; rfl
 unfold scan_Scan_Byte_p.f scan_Scan_take.f
 cases md with
 | false =>
  rw [if_neg (by simp)] at h ⊢
  rw [Option.bind_some]
  simp only
  rw [if_pos hnil]; exact h
 | true =>
  rw [if_pos rfl] at h ⊢
  split at h
  case isFalse => cases h
  case isTrue hs =>
   rw [if_pos ⟨hs, by decide, by decide⟩, Option.bind_some, ← h]
   have hb := M.byte_of s hs
   unfold M.xfix M.xbyte
   by_cases he : er = 0
   ·simp only [if_pos he]
    by_cases hp : p < s.size
    ·obtain ⟨e1, e2, e3⟩ := hb hp
     unfold M.sfix
     have c2 : ¬ ((1 : Int) < 0 ∨ (s.size : Int) - p < 1) := by omega
     rw [if_neg c2, if_pos hp]
     simp only
     rw [if_neg e1, if_pos e2, e3]
    ·unfold M.sfix
     have c2 : (1 : Int) < 0 ∨ (s.size : Int) - p < 1 := by omega
     rw [if_pos c2, if_neg hp]
     simp only
     rw [if_pos hnil]
   ·simp only [if_neg he]
    rw [if_pos hnil]
theorem scan_Scan_Byte.calls (g : Nat) (s0_0 : ByteArray) (s0_1 : Int) (s0_2 : Int) (s0_3 : Bool) (r1 : Int) (r2 : ByteArray) (r3 : Int) (r4 : Int) (r5 : Bool) (w0 w : World) (hI : IsS100 w0 w g s0_0 s0_1 s0_2 s0_3) (hB : Below w0.heap.size w0 w) (h : scan_Scan_Byte.f s0_0 s0_1 s0_2 s0_3 = some (r1, r2, r3, r4, r5)) :
    Calls Tryd.prog 31 #[.pointer (some ⟨g, 0, none⟩)] w fun e w' => e = .returned (.int .i64 r1) ∧ IsS100 w0 w' g r2 r3 r4 r5 ∧ Below w0.heap.size w0 w' ∧ KeepBut w w' g none := by
 exact scan_Scan_Byte_p.calls (w := w) (h := scan_Scan_Byte.ev _ _ _ _ _ h) (hI := hI) (hB := hB)
mutual
def varint_Get_p.l0 : Nat → ByteArray → Int → Int → Int → Option (Int × Int × Bool)
  | 0, _, _, _, _ => none
  | k + 1, x0, x2, x9, x10 => if x10 < x9 then (if 0 ≤ x10 then (if x10 < (x0.size : Int) then (if x10 = 9 then (varint_Get_p.j1 k x0 x2 x10 (IntKind.u64.wrap (bt x0 x10)) x9 x10 (decide ((IntKind.u64.wrap (bt x0 x10)) > 1))) else (varint_Get_p.j1 k x0 x2 x10 (IntKind.u64.wrap (bt x0 x10)) x9 x10 false)) else (none)) else (none)) else (some (0, 0, false))
def varint_Get_p.j1 : Nat → ByteArray → Int → Int → Int → Int → Int → Bool → Option (Int × Int × Bool)
  | 0, _, _, _, _, _, _, _ => none
  | k + 1, x0, x2, x5, x6, x9, x10, x22 => if x22 = true then (some (0, 0, false)) else (if 0 ≤ (wrap64 (7 * x5)) then (if x6 ≥ 128 then (varint_Get_p.l0 k x0 (Go.bits .or .u64 x2 (shl .u64 (Go.bits .and .u64 x6 127) (wrap64 (7 * x5)))) x9 (wrap64 (x10 + 1))) else (if x6 = 0 then (if x5 > 0 then (some (0, 0, false)) else (some (Go.bits .or .u64 x2 (shl .u64 (Go.bits .and .u64 x6 127) (wrap64 (7 * x5))), wrap64 (x5 + 1), true))) else (some (Go.bits .or .u64 x2 (shl .u64 (Go.bits .and .u64 x6 127) (wrap64 (7 * x5))), wrap64 (x5 + 1), true)))) else (none))
end
def varint_Get_p.f (k : Nat) (a0 : ByteArray) : Option (Int × Int × Bool) := varint_Get_p.l0 k a0 0 (mn (a0.size : Int) 10) 0
theorem varint_Get_p.mono_l : ∀ k, (∀ y0 y1 y2 y3, LeO (varint_Get_p.l0 k y0 y1 y2 y3) (varint_Get_p.l0 (k + 1) y0 y1 y2 y3)) ∧ (∀ y0 y1 y2 y3 y4 y5 y6, LeO (varint_Get_p.j1 k y0 y1 y2 y3 y4 y5 y6) (varint_Get_p.j1 (k + 1) y0 y1 y2 y3 y4 y5 y6))
  | 0 => ⟨fun _ _ _ _ r h => by simp [varint_Get_p.l0] at h, fun _ _ _ _ _ _ _ r h => by simp [varint_Get_p.j1] at h⟩
  | k + 1 => by
    obtain ⟨ih0, ih1⟩ := varint_Get_p.mono_l k
    refine ⟨?_, ?_⟩
    · intro y0 y1 y2 y3
      unfold varint_Get_p.l0
      repeat' first
      | (with_reducible exact ih0 _ _ _ _)
      | (with_reducible exact ih1 _ _ _ _ _ _ _)
      | (with_reducible exact LeO.refl _)
      | (with_reducible exact LeO.none _)
      | (with_reducible refine LeO.ite ?_ ?_)
      | (with_reducible refine LeO.bind ?_ (fun _ => ?_))
      | exact ih0 _ _ _ _
      | exact ih1 _ _ _ _ _ _ _
      | exact LeO.none _
      | refine LeO.ite ?_ ?_
      | refine LeO.bind ?_ (fun _ => ?_)
    · intro y0 y1 y2 y3 y4 y5 y6
      unfold varint_Get_p.j1
      repeat' first
      | (with_reducible exact ih0 _ _ _ _)
      | (with_reducible exact ih1 _ _ _ _ _ _ _)
      | (with_reducible exact LeO.refl _)
      | (with_reducible exact LeO.none _)
      | (with_reducible refine LeO.ite ?_ ?_)
      | (with_reducible refine LeO.bind ?_ (fun _ => ?_))
      | exact ih0 _ _ _ _
      | exact ih1 _ _ _ _ _ _ _
      | exact LeO.none _
      | refine LeO.ite ?_ ?_
      | refine LeO.bind ?_ (fun _ => ?_)
theorem varint_Get_p.mono : ∀ a0 k, LeO (varint_Get_p.f k a0) (varint_Get_p.f (k + 1) a0) := by
  intro a0 k
  obtain ⟨ih0, ih1⟩ := varint_Get_p.mono_l k
  unfold varint_Get_p.f
  repeat' first
      | (with_reducible exact ih0 _ _ _ _)
      | (with_reducible exact ih1 _ _ _ _ _ _ _)
      | (with_reducible exact LeO.refl _)
      | (with_reducible exact LeO.none _)
      | (with_reducible refine LeO.ite ?_ ?_)
      | (with_reducible refine LeO.bind ?_ (fun _ => ?_))
      | exact ih0 _ _ _ _
      | exact ih1 _ _ _ _ _ _ _
      | exact LeO.none _
      | refine LeO.ite ?_ ?_
      | refine LeO.bind ?_ (fun _ => ?_)
set_option maxHeartbeats 8000000 in
set_option maxRecDepth 100000 in
theorem varint_Get_p.calls (k : Nat) (a0 : ByteArray) (r1 : Int) (r2 : Int) (r3 : Bool) (w : World) (h : varint_Get_p.f k a0 = some (r1, r2, r3)) :
    Calls Tryd.prog 55 #[.string a0] w fun e w' => e = .returned (.tuple #[.int .u64 r1, .int .i64 r2, .bool r3]) ∧ Below w.heap.size w w' := by
 have HB := Aside0.mk (Below.refl w.heap.size w)
 have H : (varint_Get_p.l0 k a0 0 (mn (a0.size : Int) 10) 0) = some (r1, r2, r3) := h
 clear h
 obtain ⟨ji2, hji2⟩ : ∃ j_ : Int, (mn (a0.size : Int) 10) = j_ := ⟨_, rfl⟩
 replace H : (varint_Get_p.l0 k a0 0 ji2 0) = some (r1, r2, r3) := by first | (rw [hji2] at H; exact H) | (simp only [hji2] at H ⊢; exact H)
 (try (have hji2h : ji2 ≤ 10 := by (rw [← hji2]; unfold mn; (repeat' split) <;> omega)))
 (try (have hji2g : ji2 ≤ 64 := by omega))
 (try (have hji2l : 0 ≤ ji2 := by (rw [← hji2]; unfold mn; (repeat' split) <;> omega)))
 (try (have hji2m : 0 ≤ ji2 := by omega))
 have hji2_ : (if 10 < (a0.size : Int) then 10 else (a0.size : Int)) = ji2 := hji2
 have H' := Aside0.mk H
 clear H
 go_enter Tryd.func55, Tryd.ntmps55
 go_wp2
 go_loopg [2, 10] k (fun kq v2 v10 w' => ∃ (x2_1 : Int) (x10_1 : Int), v2 = .int .u64 x2_1 ∧ v10 = .int .i64 x10_1 ∧ Aside0 (varint_Get_p.l0 kq a0 x2_1 ji2 x10_1 = some (r1, r2, r3)) ∧ Aside0 (kq ≤ k) ∧ Aside0 (Below w.heap.size w w'))
 case atStart => exact ⟨(0), (0), M.eqv, M.eqv, H', ⟨Nat.le_refl _⟩, ⟨M.up HB⟩⟩
 case round =>
  clear H'
  try clear p2
  obtain ⟨x2_1, x10_1, rfl, rfl, HA, HK1, HB⟩ := hrel
  cases gk with
  | zero => exact absurd HA.out (by simp [varint_Get_p.l0])
  | succ k1 =>
   have H := HA.out
   clear HA
   simp only [varint_Get_p.l0] at H
   by_cases c3 : x10_1 < ji2
   ·rw [if_pos c3] at H
    have c3b0 := decide_eq_true c3
    clear c3
    by_cases c4 : 0 ≤ x10_1
    ·rw [if_pos c4] at H
     have c4b0 := decide_eq_true c4
     clear c4
     by_cases c5 : x10_1 < (a0.size : Int)
     ·rw [if_pos c5] at H
      have c5b0 := decide_eq_true c5
      clear c5
      have HC7 := Aside0.mk H
      clear H
      have p6 : 0 ≤ (x10_1 : Int) := M.dt
      have q6 : x10_1 < (a0.size : Int) := M.dt
      have hx6 := bt_at a0 x10_1
      replace p6 := eq_true p6
      replace q6 := eq_true q6
      go_upto_region 5 with (fail)
      go_cut [22] (fun v22 wc => ∃ (kq : Nat) (x22_6 : Bool), v22 = .bool x22_6 ∧ Aside0 (varint_Get_p.j1 kq a0 x2_1 x10_1 (IntKind.u64.wrap (bt a0 x10_1)) ji2 x10_1 x22_6 = some (r1, r2, r3)) ∧ Aside0 (kq ≤ k1) ∧ Aside0 (Below w.heap.size w wc))
      case first =>
       have H := HC7.out
       clear HC7
       by_cases c8 : x10_1 = 9
       ·rw [if_pos c8] at H
        have c8b0 : (x10_1 == 9) = true := beq_iff_eq.mpr c8
        have c8b1 : (x10_1 != 9) = false := bne_eq_false_iff_eq.mpr c8
        clear c8
        (first | rw [c8b0] | (simp only [i64_w, i32_w]; rw [c8b0]) | skip)
        have H' := Aside0.mk H
        clear H
        go_wp2
        go_meet
        case rel => exact ⟨_, (decide ((IntKind.u64.wrap (bt a0 x10_1)) > 1)), M.eqv, H', ⟨by have := HK1.out; first | omega | exact Nat.le_refl _⟩, ⟨M.up HB⟩⟩
       ·rw [if_neg c8] at H
        have c8b0 : (x10_1 == 9) = false := beq_eq_false_iff_ne.mpr c8
        have c8b1 : (x10_1 != 9) = true := bne_iff_ne.mpr c8
        (first | rw [c8b0] | (simp only [i64_w, i32_w]; rw [c8b0]) | skip)
        have H' := Aside0.mk H
        clear H
        go_wp2
        go_meet
        case rel => exact ⟨_, (false), M.eqv, H', ⟨by have := HK1.out; first | omega | exact Nat.le_refl _⟩, ⟨M.up HB⟩⟩
      case rest =>
       clear HC7
       (try clear p2); (try clear c3); (try clear c3b0); (try clear c4); (try clear c4b0); (try clear c5); (try clear c5b0); (try clear p6); (try clear q6); (try clear hx6); (try clear c8); (try clear c8b0); (try clear c8b1); (try clear p2); (try clear p6); (try clear q6)
       obtain ⟨kq, x22_6, rfl, HA, HJ6, HB⟩ := hcut
       cases kq with
       | zero => exact absurd HA.out (by simp [varint_Get_p.j1])
       | succ kj6 =>
        have H := HA.out
        clear HA
        simp only [varint_Get_p.j1] at H
        by_cases c9 : x22_6 = true
        ·subst c9
         have H1 : (some (0, 0, false)) = some (r1, r2, r3) := by rw [if_pos rfl] at H; exact H
         clear H
         have H := H1
         clear H1
         simp only [Option.some.injEq, Prod.mk.injEq] at H
         obtain ⟨rfl, rfl, rfl⟩ := H
         go_wp2
         go_ret3
         exact ⟨by first | rfl | (simp [errW_none, errW_some] <;> rfl) | (simp only [← hji2]; first | rfl | (simp [errW_none, errW_some] <;> rfl)) | (simp [*, errW_none, errW_some] <;> rfl), M.up HB⟩
        ·replace c9 := Bool.eq_false_iff.mpr c9
         subst c9
         have H1 : (if 0 ≤ (wrap64 (7 * x10_1)) then (if (IntKind.u64.wrap (bt a0 x10_1)) ≥ 128 then (varint_Get_p.l0 kj6 a0 (Go.bits .or .u64 x2_1 (shl .u64 (Go.bits .and .u64 (IntKind.u64.wrap (bt a0 x10_1)) 127) (wrap64 (7 * x10_1)))) ji2 (wrap64 (x10_1 + 1))) else (if (IntKind.u64.wrap (bt a0 x10_1)) = 0 then (if x10_1 > 0 then (some (0, 0, false)) else (some (Go.bits .or .u64 x2_1 (shl .u64 (Go.bits .and .u64 (IntKind.u64.wrap (bt a0 x10_1)) 127) (wrap64 (7 * x10_1))), wrap64 (x10_1 + 1), true))) else (some (Go.bits .or .u64 x2_1 (shl .u64 (Go.bits .and .u64 (IntKind.u64.wrap (bt a0 x10_1)) 127) (wrap64 (7 * x10_1))), wrap64 (x10_1 + 1), true)))) else (none)) = some (r1, r2, r3) := by rw [if_neg (show ¬ (false = true) by decide)] at H; exact H
         clear H
         have H := H1
         clear H1
         obtain ⟨ji10, hji10⟩ : ∃ j_ : Int, (wrap64 (7 * x10_1)) = j_ := ⟨_, rfl⟩
         replace H : (if 0 ≤ (ji10) then (if (IntKind.u64.wrap (bt a0 x10_1)) ≥ 128 then (varint_Get_p.l0 kj6 a0 (Go.bits .or .u64 x2_1 (shl .u64 (Go.bits .and .u64 (IntKind.u64.wrap (bt a0 x10_1)) 127) (ji10))) ji2 (wrap64 (x10_1 + 1))) else (if (IntKind.u64.wrap (bt a0 x10_1)) = 0 then (if x10_1 > 0 then (some (0, 0, false)) else (some (Go.bits .or .u64 x2_1 (shl .u64 (Go.bits .and .u64 (IntKind.u64.wrap (bt a0 x10_1)) 127) (ji10)), wrap64 (x10_1 + 1), true))) else (some (Go.bits .or .u64 x2_1 (shl .u64 (Go.bits .and .u64 (IntKind.u64.wrap (bt a0 x10_1)) 127) (ji10)), wrap64 (x10_1 + 1), true)))) else (none)) = some (r1, r2, r3) := by first | (rw [hji10] at H; exact H) | (simp only [hji10] at H ⊢; exact H)
         have hji10w : (IntKind.i64.wrap (7 * x10_1)) = ji10 := (i64_w _).trans hji10
         by_cases c11 : 0 ≤ (ji10)
         ·rw [if_pos c11] at H
          have c11b0 := eq_true c11
          have c11b1 := decide_eq_true c11
          clear c11
          obtain ⟨ji12, hji12⟩ : ∃ j_ : Int, (shl .u64 (Go.bits .and .u64 (IntKind.u64.wrap (bt a0 x10_1)) 127) (ji10)) = j_ := ⟨_, rfl⟩
          replace H : (if (IntKind.u64.wrap (bt a0 x10_1)) ≥ 128 then (varint_Get_p.l0 kj6 a0 (Go.bits .or .u64 x2_1 (ji12)) ji2 (wrap64 (x10_1 + 1))) else (if (IntKind.u64.wrap (bt a0 x10_1)) = 0 then (if x10_1 > 0 then (some (0, 0, false)) else (some (Go.bits .or .u64 x2_1 (ji12), wrap64 (x10_1 + 1), true))) else (some (Go.bits .or .u64 x2_1 (ji12), wrap64 (x10_1 + 1), true)))) = some (r1, r2, r3) := by first | (rw [hji12] at H; exact H) | (simp only [hji12] at H ⊢; exact H)
          have hji12_ : (IntKind.u64.wrap ((Go.bits .and .u64 (IntKind.u64.wrap (bt a0 x10_1)) 127) * 2 ^ min (ji10).toNat 64)) = ji12 := hji12
          have hji12z : (ji10) ≤ 64 → (IntKind.u64.wrap ((Go.bits .and .u64 (IntKind.u64.wrap (bt a0 x10_1)) 127) * 2 ^ (ji10).toNat)) = ji12 := shl_small hji12
          by_cases c13 : (IntKind.u64.wrap (bt a0 x10_1)) ≥ 128
          ·rw [if_pos c13] at H
           have c13b0 := decide_eq_true c13
           clear c13
           have H' := Aside0.mk H
           clear H
           go_wp2
           go_roundg kj6
           case measure => have := HK1.out; have := HJ6.out; omega
           case rel => exact ⟨(Go.bits .or .u64 x2_1 (ji12)), (wrap64 (x10_1 + 1)), (by first | rfl | (simp; done) | (simp only [← hji12] <;> (first | rfl | simp)) | (simp [*]; done)), M.eqv, H', ⟨by have := HK1.out; have := HJ6.out; omega⟩, ⟨M.up HB⟩⟩
          ·rw [if_neg c13] at H
           have c13b0 := decide_eq_false c13
           clear c13
           by_cases c14 : (IntKind.u64.wrap (bt a0 x10_1)) = 0
           ·rw [if_pos c14] at H
            have c14b0 : ((IntKind.u64.wrap (bt a0 x10_1)) == 0) = true := beq_iff_eq.mpr c14
            have c14b1 : ((IntKind.u64.wrap (bt a0 x10_1)) != 0) = false := bne_eq_false_iff_eq.mpr c14
            clear c14
            by_cases c15 : x10_1 > 0
            ·rw [if_pos c15] at H
             have c15b0 := decide_eq_true c15
             clear c15
             simp only [Option.some.injEq, Prod.mk.injEq] at H
             obtain ⟨rfl, rfl, rfl⟩ := H
             go_wp2
             go_ret3
             exact ⟨by first | rfl | (simp [errW_none, errW_some] <;> rfl) | (simp only [← hji2, ← hji10, ← hji12]; first | rfl | (simp [errW_none, errW_some] <;> rfl)) | (simp [*, errW_none, errW_some] <;> rfl), M.up HB⟩
            ·rw [if_neg c15] at H
             have c15b0 := decide_eq_false c15
             clear c15
             simp only [Option.some.injEq, Prod.mk.injEq] at H
             obtain ⟨rfl, rfl, rfl⟩ := H
             go_wp2
             go_ret3
             exact ⟨by first | rfl | (simp [errW_none, errW_some] <;> rfl) | (simp only [← hji2, ← hji10, ← hji12]; first | rfl | (simp [errW_none, errW_some] <;> rfl)) | (simp [*, errW_none, errW_some] <;> rfl), M.up HB⟩
           ·rw [if_neg c14] at H
            have c14b0 : ((IntKind.u64.wrap (bt a0 x10_1)) == 0) = false := beq_eq_false_iff_ne.mpr c14
            have c14b1 : ((IntKind.u64.wrap (bt a0 x10_1)) != 0) = true := bne_iff_ne.mpr c14
            simp only [Option.some.injEq, Prod.mk.injEq] at H
            obtain ⟨rfl, rfl, rfl⟩ := H
            go_wp2
            go_ret3
            exact ⟨by first | rfl | (simp [errW_none, errW_some] <;> rfl) | (simp only [← hji2, ← hji10, ← hji12]; first | rfl | (simp [errW_none, errW_some] <;> rfl)) | (simp [*, errW_none, errW_some] <;> rfl), M.up HB⟩
         ·exact M.nf c11 H
     ·exact M.nf c5 H
    ·exact M.nf c4 H
   ·rw [if_neg c3] at H
    have c3b0 := decide_eq_false c3
    clear c3
    simp only [Option.some.injEq, Prod.mk.injEq] at H
    obtain ⟨rfl, rfl, rfl⟩ := H
    go_wp2
    go_ret3
    exact ⟨by first | rfl | (simp [errW_none, errW_some] <;> rfl) | (simp only [← hji2]; first | rfl | (simp [errW_none, errW_some] <;> rfl)) | (simp [*, errW_none, errW_some] <;> rfl), M.up HB⟩
def varint_Get.f (a0 : ByteArray) : Option (Int × Int × Bool) := some (M.vget a0)
theorem varint_Get.step (s : ByteArray) (i n q c : Nat) (hm : (i : Int) < mn (s.size : Int) 10) (hlt : i < s.size) (hi : i ≤ 9) (h9 : i = 9 → c ≤ 1)
    (hw : IntKind.u64.wrap (bt s (i : Int)) = (c : Int)) (hj : Go.bits .or .u64 (n : Int) (shl .u64 (Go.bits .and .u64 (c : Int) 127) (wrap64 (7 * (i : Int)))) = (q : Int)) (k : Nat) :
    varint_Get_p.l0 (k + 2) s (n : Int) (mn (s.size : Int) 10) (i : Int) =
      if (c : Int) ≥ 128 then varint_Get_p.l0 k s (q : Int) (mn (s.size : Int) 10) ((i + 1 : Nat) : Int)
      else if (c : Int) = 0 then (if (i : Int) > 0 then some (0, 0, false) else some ((q : Int), ((i + 1 : Nat) : Int), true))
      else some ((q : Int), ((i + 1 : Nat) : Int), true) := by
  have hi1 : wrap64 ((i : Int) + 1) = ((i + 1 : Nat) : Int) := by rw [M.wrap64_id (by omega) (by omega)]; omega
  have h7 : 0 ≤ wrap64 (7 * (i : Int)) := by rw [M.wrap64_id (by omega) (by omega)]; omega
  have hx : (if (i : Int) = 9 then varint_Get_p.j1 (k + 1) s (n : Int) (i : Int) (c : Int) (mn (s.size : Int) 10) (i : Int) (decide ((c : Int) > 1)) else varint_Get_p.j1 (k + 1) s (n : Int) (i : Int) (c : Int) (mn (s.size : Int) 10) (i : Int) false) =
      varint_Get_p.j1 (k + 1) s (n : Int) (i : Int) (c : Int) (mn (s.size : Int) 10) (i : Int) false := by
    split
    · rw [decide_eq_false (by omega)]
    · rfl
  simp only [varint_Get_p.l0]
  rw [if_pos hm, if_pos (Int.natCast_nonneg _), if_pos (Int.ofNat_lt.2 hlt), hw, hx]
  simp only [varint_Get_p.j1]
  rw [if_neg (by simp), if_pos h7, hj, hi1]
theorem varint_Get.loop (s : ByteArray) (d : Nat) : ∀ (i n : Nat), i + d = 9 → n < 128 ^ i → i ≤ s.size →
    ∃ k, varint_Get_p.l0 k s (n : Int) (mn (s.size : Int) 10) (i : Int) = some (M.vgo i n ((M.bs s).drop i)) := by
  induction d with
  | zero => ?_
  | succ d ih => ?_
  all_goals
    intro i n hd hn hi
    by_cases hlt : i < s.size
    case neg =>
      refine ⟨1, ?_⟩
      simp only [varint_Get_p.l0]
      rw [if_neg (by unfold mn; split <;> omega), List.drop_of_length_le (by rw [M.bs_length]; omega)]
      rfl
    case pos =>
      have hl : i < (M.bs s).length := by rw [M.bs_length]; exact hlt
      have hb := M.bt_bs s i hl
      have hdrop : (M.bs s).drop i = (M.bs s)[i] :: (M.bs s).drop (i + 1) := List.drop_eq_getElem_cons hl
      generalize (M.bs s)[i] = c at hb hdrop
      have hc := c.toNat_lt
      have hw : IntKind.u64.wrap (bt s (i : Int)) = (c.toNat : Int) := by rw [hb, M.u64_id (by omega) (by omega)]
      have hm : (i : Int) < mn (s.size : Int) 10 := by unfold mn; split <;> omega
      have hi9 : i ≤ 9 := by omega
      rw [hdrop]
      by_cases h9 : i = 9 ∧ 1 < c.toNat
      · refine ⟨2, ?_⟩
        simp only [varint_Get_p.l0, varint_Get_p.j1]
        rw [if_pos hm, if_pos (Int.natCast_nonneg _), if_pos (Int.ofNat_lt.2 hlt), if_pos (by omega), hw, if_pos (by simp; omega)]
        obtain ⟨rfl, h1⟩ := h9
        rw [M.vgo_nine n _ h1]
      · have h9' : i = 9 → c.toNat ≤ 1 := fun e => Nat.le_of_not_lt fun h => h9 ⟨e, h⟩
        have h64 := M.pow_64 (c := c.toNat) hi9 hn h9'
        have hj : Go.bits .or .u64 (n : Int) (shl .u64 (Go.bits .and .u64 (c.toNat : Int) 127) (wrap64 (7 * (i : Int)))) = ((n + c.toNat % 128 * 128 ^ i : Nat) : Int) := by
          rw [M.and127 hc, M.wrap64_id (by omega) (by omega), M.join64 hn (Nat.lt_of_le_of_lt (Nat.le_add_left _ _) h64) (Nat.lt_of_le_of_lt (Nat.le_add_right _ _) h64) hi9]
        have hstep := varint_Get.step s i n _ c.toNat hm hlt hi9 h9' hw hj
        clear hj hw hb hm h9
        by_cases h128 : c.toNat < 128
        · refine ⟨2, ?_⟩
          rw [hstep 0, if_neg (by omega), M.vgo_low _ _ _ h128]
          rw [Nat.mod_eq_of_lt h128] at h64 ⊢
          by_cases h0 : c.toNat = 0
          · rw [if_pos (by omega)]
            by_cases hi0 : i = 0
            · rw [if_neg (by omega), if_pos ⟨fun h => absurd hi0 h, h64⟩]
            · rw [if_pos (by omega), if_neg (fun h => h.1 hi0 h0)]
          · rw [if_neg (by omega), if_pos ⟨fun _ => h0, h64⟩]
        · have h8 : i ≤ 8 := by
            by_cases e : i = 9
            · have := h9' e; omega
            · omega
          first
          | (exfalso; omega)
          | (have hn' := M.pow_step (c := c.toNat) hn
             rw [M.vgo_high _ _ _ h128]
             generalize n + c.toNat % 128 * 128 ^ i = q at hstep hn' h64 ⊢
             obtain ⟨k, hk⟩ := ih (i + 1) q (by omega) hn' hlt
             refine ⟨k + 2, ?_⟩
             rw [hstep k, if_pos (by omega), hk]
             done)
theorem varint_Get.ev (a0 : ByteArray) (r : Int × Int × Bool) (h : varint_Get.f a0 = some r) : ∃ k, varint_Get_p.f k a0 = some r := by
 obtain rfl := Option.some.inj h
 obtain ⟨k, hk⟩ := varint_Get.loop a0 9 0 0 rfl (by decide) (Nat.zero_le _)
 refine ⟨k, ?_⟩
 unfold varint_Get_p.f
 rw [M.vgo_zero] at hk
 exact hk
theorem varint_Get.calls (a0 : ByteArray) (r1 : Int) (r2 : Int) (r3 : Bool) (w : World) (h : varint_Get.f a0 = some (r1, r2, r3)) :
    Calls Tryd.prog 55 #[.string a0] w fun e w' => e = .returned (.tuple #[.int .u64 r1, .int .i64 r2, .bool r3]) ∧ Below w.heap.size w w' := by
 obtain ⟨k, hk⟩ := varint_Get.ev _ _ h
 exact varint_Get_p.calls (k := k) (w := w) (h := hk)
def scan_Scan_fail.f (s0_0 : ByteArray) (s0_1 : Int) (s0_2 : Int) (s0_3 : Bool) (a1 : Int) : Option (ByteArray × Int × Int × Bool) := (scan_Scan_Err.f s0_0 s0_1 s0_2 s0_3).bind fun bt115 => (if bt115.1 = 0 then (some (bt115.2.1, bt115.2.2.1, a1, bt115.2.2.2.2)) else (some (bt115.2.1, bt115.2.2.1, bt115.2.2.2.1, bt115.2.2.2.2)))
set_option maxHeartbeats 8000000 in
set_option maxRecDepth 100000 in
theorem scan_Scan_fail.calls (g : Nat) (s0_0 : ByteArray) (s0_1 : Int) (s0_2 : Int) (s0_3 : Bool) (a1 : Int) (r1 : ByteArray) (r2 : Int) (r3 : Int) (r4 : Bool) (w0 w : World) (hI : IsS100 w0 w g s0_0 s0_1 s0_2 s0_3) (hB : Below w0.heap.size w0 w) (h : scan_Scan_fail.f s0_0 s0_1 s0_2 s0_3 a1 = some (r1, r2, r3, r4)) :
    Calls Tryd.prog 56 #[.pointer (some ⟨g, 0, none⟩), .int .i64 a1] w fun e w' => e = .returned (.tuple #[]) ∧ IsS100 w0 w' g r1 r2 r3 r4 ∧ Below w0.heap.size w0 w' ∧ KeepBut w w' g none := by
 have HI0 := Aside0.mk hI
 have HK := Aside0.mk (KeepBut.refl w g none)
 have HL := Aside0.mk hB.size
 clear hI
 have HW0 := Aside0.mk hB.size
 have HB := Aside0.mk hB
 clear hB
 have H : ((scan_Scan_Err.f s0_0 s0_1 s0_2 s0_3).bind fun bt115 => (if bt115.1 = 0 then (some (bt115.2.1, bt115.2.2.1, a1, bt115.2.2.2.2)) else (some (bt115.2.1, bt115.2.2.1, bt115.2.2.2.1, bt115.2.2.2.2)))) = some (r1, r2, r3, r4) := h
 clear h
 replace H := Option.bind_eq_some_iff.mp H
 obtain ⟨⟨t115, t116, t117, t118, t119⟩, A30, H⟩ := H
 replace H : (if t115 = 0 then (some (t116, t117, a1, t119)) else (some (t116, t117, t118, t119))) = some (r1, r2, r3, r4) := H
 have A3 := Aside0.mk A30
 clear A30
 by_cases c4 : t115 = 0
 ·rw [if_pos c4] at H
  have c4b0 : (t115 == 0) = true := beq_iff_eq.mpr c4
  have c4b1 : (t115 != 0) = false := bne_eq_false_iff_eq.mpr c4
  clear c4
  simp only [Option.some.injEq, Prod.mk.injEq] at H
  obtain ⟨rfl, rfl, rfl, rfl⟩ := H
  go_enter Tryd.func56, Tryd.ntmps56
  go_wp2_with (first | ((with_reducible refine gate_callee (f := 54) rfl ?_); refine M.goes (some 5) Tryd.func54 #[.pointer (some ⟨g, 0, none⟩)] rfl ?_; (with_reducible refine (scan_Scan_Err.calls g s0_0 s0_1 s0_2 s0_3 t115 t116 t117 t118 t119 w0 _ ?side1 ?side2 A3.out).mono ?_); (case side1 => repeat (first | (with_reducible first | exact HI0.out | apply IsS100.alloc | apply IsS100.drewN | apply IsS100.drew | apply IsS100.set_0 | apply IsS100.set_1 | apply IsS100.set_2 | apply IsS100.set_3) | exact HI0.out)); (case side2 => repeat (first | (with_reducible first | exact HB.out | apply below_alloc | apply pw_below_drewN | apply below_drew1 | refine below_set ?_ (IsS100.ge HI0.out)) | exact HB.out)); rintro e w5 ⟨rfl, hi, hb, hk⟩; refine ⟨_, rfl, ?_⟩; replace HK := Aside0.mk (KeepBut.trans (by repeat (first | (with_reducible first | exact HK.out | apply KeepBut.set_ | apply keep_drewN | apply keep_drew | apply keep_alloc) | exact HK.out)) hk (.inl rfl)); replace HB := Aside0.mk (hb); replace HI0 := Aside0.mk (hi); (try clear hb); (try clear hk); (try clear hi); obtain ⟨HGz6, hgz6⟩ := HI0.out; have zaa := cellS100_0 HGz6; have zab := cellS100_1 HGz6; have zac := cellS100_2 HGz6; have zad := cellS100_3 HGz6; have zae := blk_frozen HGz6 0; have zaf := blk_frozen HGz6 1; have zag := blk_frozen HGz6 2; have zah := blk_frozen HGz6 3; clear HGz6 hgz6))
  first | go_end0 | ((try simp only [Exit.inBlock, Exit.then]); refine bodyPost_ret (results_none rfl _ _ _) rfl ?_)
  exact ⟨M.eqe, by repeat (first | (with_reducible first | exact HI0.out | apply IsS100.alloc | apply IsS100.drewN | apply IsS100.drew | apply IsS100.set_0 | apply IsS100.set_1 | apply IsS100.set_2 | apply IsS100.set_3) | exact HI0.out), by repeat (first | (with_reducible first | exact HB.out | apply below_alloc | apply pw_below_drewN | apply below_drew1 | refine below_set ?_ (IsS100.ge HI0.out)) | exact HB.out), by repeat (first | (with_reducible first | exact HK.out | apply KeepBut.set_ | apply keep_drewN | apply keep_drew | apply keep_alloc) | exact HK.out)⟩
 ·rw [if_neg c4] at H
  have c4b0 : (t115 == 0) = false := beq_eq_false_iff_ne.mpr c4
  have c4b1 : (t115 != 0) = true := bne_iff_ne.mpr c4
  simp only [Option.some.injEq, Prod.mk.injEq] at H
  obtain ⟨rfl, rfl, rfl, rfl⟩ := H
  go_enter Tryd.func56, Tryd.ntmps56
  go_wp2_with (first | ((with_reducible refine gate_callee (f := 54) rfl ?_); refine M.goes (some 5) Tryd.func54 #[.pointer (some ⟨g, 0, none⟩)] rfl ?_; (with_reducible refine (scan_Scan_Err.calls g s0_0 s0_1 s0_2 s0_3 t115 t116 t117 t118 t119 w0 _ ?side1 ?side2 A3.out).mono ?_); (case side1 => repeat (first | (with_reducible first | exact HI0.out | apply IsS100.alloc | apply IsS100.drewN | apply IsS100.drew | apply IsS100.set_0 | apply IsS100.set_1 | apply IsS100.set_2 | apply IsS100.set_3) | exact HI0.out)); (case side2 => repeat (first | (with_reducible first | exact HB.out | apply below_alloc | apply pw_below_drewN | apply below_drew1 | refine below_set ?_ (IsS100.ge HI0.out)) | exact HB.out)); rintro e w7 ⟨rfl, hi, hb, hk⟩; refine ⟨_, rfl, ?_⟩; replace HK := Aside0.mk (KeepBut.trans (by repeat (first | (with_reducible first | exact HK.out | apply KeepBut.set_ | apply keep_drewN | apply keep_drew | apply keep_alloc) | exact HK.out)) hk (.inl rfl)); replace HB := Aside0.mk (hb); replace HI0 := Aside0.mk (hi); (try clear hb); (try clear hk); (try clear hi)))
  first | go_end0 | ((try simp only [Exit.inBlock, Exit.then]); refine bodyPost_ret (results_none rfl _ _ _) rfl ?_)
  exact ⟨M.eqe, by repeat (first | (with_reducible first | exact HI0.out | apply IsS100.alloc | apply IsS100.drewN | apply IsS100.drew | apply IsS100.set_0 | apply IsS100.set_1 | apply IsS100.set_2 | apply IsS100.set_3) | exact HI0.out), by repeat (first | (with_reducible first | exact HB.out | apply below_alloc | apply pw_below_drewN | apply below_drew1 | refine below_set ?_ (IsS100.ge HI0.out)) | exact HB.out), by repeat (first | (with_reducible first | exact HK.out | apply KeepBut.set_ | apply keep_drewN | apply keep_drew | apply keep_alloc) | exact HK.out)⟩
def scan_Scan_Num.f (s0_0 : ByteArray) (s0_1 : Int) (s0_2 : Int) (s0_3 : Bool) (a1 : Int) : Option (Int × ByteArray × Int × Int × Bool) :=
  if s0_3 = true ∧ s0_2 = 0 then (if M.sok s0_0 s0_1 ∧ a1 ≤ 9223372036854775807 then some ((M.snum s0_0 s0_1 a1).1, s0_0, (M.snum s0_0 s0_1 a1).2.1, (M.snum s0_0 s0_1 a1).2.2, true) else none) else some (0, s0_0, s0_1, s0_2, s0_3)
theorem scan_Scan_Num.off (g : Nat) (s : ByteArray) (p er most : Int) (md : Bool) (w0 w : World) (hI : IsS100 w0 w g s p er md) (hB : Below w0.heap.size w0 w)
    (hm : ¬ (md = true ∧ er = 0)) :
    Calls Tryd.prog 32 #[.pointer (some ⟨g, 0, none⟩), .int .i64 most] w fun e w' => e = .returned (.int .i64 0) ∧ IsS100 w0 w' g s p er md ∧ Below w0.heap.size w0 w' ∧ KeepBut w w' g none := by
 obtain ⟨q, hq0, hq⟩ : ∃ q, q ≠ 0 ∧ scan_Scan_Err.f s p er md = some (q, s, p, er, md) := by
  unfold scan_Scan_Err.f
  split
  ·rename_i h; exact ⟨er, fun h0 => hm ⟨h, h0⟩, rfl⟩
  ·exact ⟨1, by decide, rfl⟩
 have hb0 : (q == 0) = false := by simpa using hq0
 have hb1 : (q != 0) = true := by simpa using hq0
 have HQ := Aside0.mk hq
 clear hq hm hq0
 go_enter Tryd.func32, Tryd.ntmps32
 go_wp2_with (go_at_call 54; refine (scan_Scan_Err.calls g s p er md q s p er md w0 _ hI hB HQ.out).mono ?_; rintro e w1 ⟨rfl, hi, hb, hk1⟩)
 go_ret
 exact ⟨rfl, hi, hb, hk1⟩
set_option maxHeartbeats 1000000 in
theorem scan_Scan_Num.bad (g : Nat) (s : ByteArray) (p most n k : Int) (w0 w : World) (hI : IsS100 w0 w g s p 0 true) (hB : Below w0.heap.size w0 w)
    (h0 : 0 ≤ p) (h1 : p ≤ s.size) (hs : s.size ≤ 9223372036854775807) (hg : varint_Get.f (s.extract p.toNat s.size) = some (n, k, false)) :
    Calls Tryd.prog 32 #[.pointer (some ⟨g, 0, none⟩), .int .i64 most] w fun e w' => e = .returned (.int .i64 0) ∧ IsS100 w0 w' g s p 3 true ∧ Below w0.heap.size w0 w' ∧ KeepBut w w' g none := by
 go_enter Tryd.func32, Tryd.ntmps32
 go_wp2_with (go_at_call 54; refine (scan_Scan_Err.calls g s p 0 true 0 s p 0 true w0 _ hI hB rfl).mono ?_; rintro e w1 ⟨rfl, hi, hb, hk1⟩)
 have hc0 := cellS100_0 hi.1
 have hc1 := cellS100_1 hi.1
 have hc2 := cellS100_2 hi.1
 have HG := Aside0.mk hg
 have HI := Aside0.mk hi
 clear hg hi hI
 go_region_with (go_at_call 55; refine (varint_Get.calls (s.extract p.toNat s.size) n k false _ HG.out).mono ?_; rintro e w2 ⟨rfl, hb2⟩)
 all_goals
  have hi2 := IsS100.below (W := w1.drew) HI.out hb2
  have hb3 := below_then (below_drew hb) (below_drew hb).size hb2
  have hk2 := KeepBut.trans (keep_drew hk1) (KeepBut.of_below hb2 g none) (.inl rfl)
  clear hc0 hc1 hc2
  go_wp2_with (go_at_call 56; refine (scan_Scan_fail.calls g s p 0 true 3 s p 3 true w0 _ hi2 hb3 rfl).mono ?_; rintro e w3 ⟨rfl, hi4, hb4, hk4⟩)
  go_ret
  exact ⟨rfl, hi4, hb4, KeepBut.trans hk2 hk4 (.inl rfl)⟩
set_option maxHeartbeats 1000000 in
theorem scan_Scan_Num.much (g : Nat) (s : ByteArray) (p most n k : Int) (w0 w : World) (hI : IsS100 w0 w g s p 0 true) (hB : Below w0.heap.size w0 w)
    (h0 : 0 ≤ p) (h1 : p ≤ s.size) (hs : s.size ≤ 9223372036854775807) (hg : varint_Get.f (s.extract p.toNat s.size) = some (n, k, true)) (hm : most < 0 ∨ most < n) (hmm : most ≤ 9223372036854775807) (hn0 : 0 ≤ n) :
    Calls Tryd.prog 32 #[.pointer (some ⟨g, 0, none⟩), .int .i64 most] w fun e w' => e = .returned (.int .i64 0) ∧ IsS100 w0 w' g s p 5 true ∧ Below w0.heap.size w0 w' ∧ KeepBut w w' g none := by
 go_enter Tryd.func32, Tryd.ntmps32
 go_wp2_with (go_at_call 54; refine (scan_Scan_Err.calls g s p 0 true 0 s p 0 true w0 _ hI hB rfl).mono ?_; rintro e w1 ⟨rfl, hi, hb, hk1⟩)
 have hc0 := cellS100_0 hi.1
 have hc1 := cellS100_1 hi.1
 have hc2 := cellS100_2 hi.1
 have HG := Aside0.mk hg
 have HI := Aside0.mk hi
 clear hg hi hI
 go_region_with (go_at_call 55; refine (varint_Get.calls (s.extract p.toNat s.size) n k true _ HG.out).mono ?_; rintro e w2 ⟨rfl, hb2⟩)
 all_goals
  have hi2 := IsS100.below (W := w1.drew) HI.out hb2
  have hb3 := below_then (below_drew hb) (below_drew hb).size hb2
  have hk2 := KeepBut.trans (keep_drew hk1) (KeepBut.of_below hb2 g none) (.inl rfl)
  clear hc0 hc1 hc2
  by_cases hneg : most < 0
  case pos =>
   have ht0 : decide (most < 0) = true := decide_eq_true hneg
   go_wp2_with (go_at_call 56; refine (scan_Scan_fail.calls g s p 0 true 5 s p 5 true w0 _ hi2 hb3 rfl).mono ?_; rintro e w3 ⟨rfl, hi4, hb4, hk4⟩)
   go_ret
   exact ⟨rfl, hi4, hb4, KeepBut.trans hk2 hk4 (.inl rfl)⟩
  case neg =>
   have hmn : 0 ≤ most := by omega
   have ht0 : decide (most < 0) = false := decide_eq_false hneg
   have hlt : most < n := by omega
   have ht1 : decide (n > most) = true := decide_eq_true hlt
   clear hm hneg
   go_wp2_with (go_at_call 56; refine (scan_Scan_fail.calls g s p 0 true 5 s p 5 true w0 _ hi2 hb3 rfl).mono ?_; rintro e w3 ⟨rfl, hi4, hb4, hk4⟩)
   go_ret
   exact ⟨rfl, hi4, hb4, KeepBut.trans hk2 hk4 (.inl rfl)⟩
set_option maxHeartbeats 1000000 in
theorem scan_Scan_Num.good (g : Nat) (s : ByteArray) (p most n k : Int) (w0 w : World) (hI : IsS100 w0 w g s p 0 true) (hB : Below w0.heap.size w0 w)
    (h0 : 0 ≤ p) (h1 : p ≤ s.size) (hs : s.size ≤ 9223372036854775807) (hg : varint_Get.f (s.extract p.toNat s.size) = some (n, k, true)) (hm : 0 ≤ most) (hn : n ≤ most) (hmm : most ≤ 9223372036854775807) (hk : p + k ≤ s.size) (hk0 : 0 ≤ k) (hn0 : 0 ≤ n) :
    Calls Tryd.prog 32 #[.pointer (some ⟨g, 0, none⟩), .int .i64 most] w fun e w' => e = .returned (.int .i64 n) ∧ IsS100 w0 w' g s (p + k) 0 true ∧ Below w0.heap.size w0 w' ∧ KeepBut w w' g none := by
 go_enter Tryd.func32, Tryd.ntmps32
 go_wp2_with (go_at_call 54; refine (scan_Scan_Err.calls g s p 0 true 0 s p 0 true w0 _ hI hB rfl).mono ?_; rintro e w1 ⟨rfl, hi, hb, hk1⟩)
 have hc0 := cellS100_0 hi.1
 have hc1 := cellS100_1 hi.1
 have hc2 := cellS100_2 hi.1
 have HG := Aside0.mk hg
 have HI := Aside0.mk hi
 clear hg hi hI
 go_region_with (go_at_call 55; refine (varint_Get.calls (s.extract p.toNat s.size) n k true _ HG.out).mono ?_; rintro e w2 ⟨rfl, hb2⟩)
 all_goals
  have hi2 := IsS100.below (W := w1.drew) HI.out hb2
  have hb3 := below_then (below_drew hb) (below_drew hb).size hb2
  have hk2 := KeepBut.trans (keep_drew hk1) (KeepBut.of_below hb2 g none) (.inl rfl)
  have hd1 := cellS100_1 hi2.1
  have he1 := blk_frozen hi2.1 1
  have HI2 := Aside0.mk hi2
  clear hi2 hc0 hc1 hc2
  go_wp2
  go_ret
  exact ⟨rfl, IsS100.set_1 HI2.out (p + k), below_set hb3 (IsS100.ge HI2.out), KeepBut.set_ hk2 _ _⟩
theorem scan_Scan_Num.calls (g : Nat) (s0_0 : ByteArray) (s0_1 : Int) (s0_2 : Int) (s0_3 : Bool) (a1 : Int) (r1 : Int) (r2 : ByteArray) (r3 : Int) (r4 : Int) (r5 : Bool) (w0 w : World) (hI : IsS100 w0 w g s0_0 s0_1 s0_2 s0_3) (hB : Below w0.heap.size w0 w) (h : scan_Scan_Num.f s0_0 s0_1 s0_2 s0_3 a1 = some (r1, r2, r3, r4, r5)) :
    Calls Tryd.prog 32 #[.pointer (some ⟨g, 0, none⟩), .int .i64 a1] w fun e w' => e = .returned (.int .i64 r1) ∧ IsS100 w0 w' g r2 r3 r4 r5 ∧ Below w0.heap.size w0 w' ∧ KeepBut w w' g none := by
 unfold scan_Scan_Num.f at h
 split at h
 case isFalse hm =>
  simp only [Option.some.injEq, Prod.mk.injEq] at h
  obtain ⟨rfl, rfl, rfl, rfl, rfl⟩ := h
  exact scan_Scan_Num.off g _ _ _ a1 _ w0 w hI hB hm
 case isTrue hm =>
  obtain ⟨rfl, rfl⟩ := hm
  split at h
  case isFalse => cases h
  case isTrue hh =>
   obtain ⟨⟨h0, h1, hs⟩, hmm⟩ := hh
   have hv := M.vget_at s0_0 ⟨h0, h1, hs⟩
   simp only [Option.some.injEq, Prod.mk.injEq] at h
   obtain ⟨rfl, rfl, rfl, rfl, rfl⟩ := h
   have hg : varint_Get.f (s0_0.extract s0_1.toNat s0_0.size) = some (M.vget (s0_0.extract s0_1.toNat s0_0.size)) := rfl
   unfold M.snum
   generalize M.vget (s0_0.extract s0_1.toNat s0_0.size) = q at hg hv ⊢
   obtain ⟨n, k, b⟩ := q
   cases b with
   | false => exact scan_Scan_Num.bad g s0_0 s0_1 a1 n k w0 w hI hB h0 h1 hs hg
   | true =>
    simp only [if_true]
    by_cases hx : a1 < 0 ∨ a1 < n
    ·rw [if_pos hx]
     exact scan_Scan_Num.much g s0_0 s0_1 a1 n k w0 w hI hB h0 h1 hs hg hx hmm hv.1
    ·rw [if_neg hx]
     exact scan_Scan_Num.good g s0_0 s0_1 a1 n k w0 w hI hB h0 h1 hs hg (by omega) (by omega) hmm hv.2.2.2 hv.2.2.1 hv.1
theorem scan_Scan_Num.eq (s : ByteArray) (p er most : Int) (hs : M.sok s p) (hm : most ≤ 9223372036854775807) :
    scan_Scan_Num.f s p er true most = some ((M.xnum s p er most).1, s, (M.xnum s p er most).2.1, (M.xnum s p er most).2.2, true) := by
 unfold scan_Scan_Num.f M.xnum
 by_cases he : er = 0
 ·rw [if_pos ⟨rfl, he⟩, if_pos ⟨hs, hm⟩]; simp only [if_pos he]
 ·rw [if_neg (fun z => he z.2)]; simp only [if_neg he]
def scan_Scan_Fix_p.f (s0_0 : ByteArray) (s0_1 : Int) (s0_2 : Int) (s0_3 : Bool) (a1 : Int) : Option (ByteArray × ByteArray × Int × Int × Bool) := (scan_Scan_take.f s0_0 s0_1 s0_2 s0_3 a1).bind fun bt120 => (some (bt120.1, bt120.2.1, bt120.2.2.1, bt120.2.2.2.1, bt120.2.2.2.2))
set_option maxHeartbeats 8000000 in
set_option maxRecDepth 100000 in
theorem scan_Scan_Fix_p.calls (g : Nat) (s0_0 : ByteArray) (s0_1 : Int) (s0_2 : Int) (s0_3 : Bool) (a1 : Int) (r1 : ByteArray) (r2 : ByteArray) (r3 : Int) (r4 : Int) (r5 : Bool) (w0 w : World) (hI : IsS100 w0 w g s0_0 s0_1 s0_2 s0_3) (hB : Below w0.heap.size w0 w) (h : scan_Scan_Fix_p.f s0_0 s0_1 s0_2 s0_3 a1 = some (r1, r2, r3, r4, r5)) :
    Calls Tryd.prog 33 #[.pointer (some ⟨g, 0, none⟩), .int .i64 a1] w fun e w' => e = .returned (.string r1) ∧ IsS100 w0 w' g r2 r3 r4 r5 ∧ Below w0.heap.size w0 w' ∧ KeepBut w w' g none := by
 have HI0 := Aside0.mk hI
 have HK := Aside0.mk (KeepBut.refl w g none)
 have HL := Aside0.mk hB.size
 clear hI
 have HW0 := Aside0.mk hB.size
 have HB := Aside0.mk hB
 clear hB
 have H : ((scan_Scan_take.f s0_0 s0_1 s0_2 s0_3 a1).bind fun bt120 => (some (bt120.1, bt120.2.1, bt120.2.2.1, bt120.2.2.2.1, bt120.2.2.2.2))) = some (r1, r2, r3, r4, r5) := h
 clear h
 replace H := Option.bind_eq_some_iff.mp H
 obtain ⟨⟨t120, t121, t122, t123, t124⟩, A30, H⟩ := H
 replace H : (some (t120, t121, t122, t123, t124)) = some (r1, r2, r3, r4, r5) := H
 have A3 := Aside0.mk A30
 clear A30
 simp only [Option.some.injEq, Prod.mk.injEq] at H
 obtain ⟨rfl, rfl, rfl, rfl, rfl⟩ := H
 go_enter Tryd.func33, Tryd.ntmps33
 go_wp2_with (first | ((with_reducible refine gate_callee (f := 53) rfl ?_); refine M.goes (some 7) Tryd.func53 #[.pointer (some ⟨g, 0, none⟩), .int .i64 a1] rfl ?_; (with_reducible refine (scan_Scan_take.calls g s0_0 s0_1 s0_2 s0_3 a1 t120 t121 t122 t123 t124 w0 _ ?side1 ?side2 A3.out).mono ?_); (case side1 => repeat (first | (with_reducible first | exact HI0.out | apply IsS100.alloc | apply IsS100.drewN | apply IsS100.drew | apply IsS100.set_0 | apply IsS100.set_1 | apply IsS100.set_2 | apply IsS100.set_3) | exact HI0.out)); (case side2 => repeat (first | (with_reducible first | exact HB.out | apply below_alloc | apply pw_below_drewN | apply below_drew1 | refine below_set ?_ (IsS100.ge HI0.out)) | exact HB.out)); rintro e w4 ⟨rfl, hi, hb, hk⟩; refine ⟨_, rfl, ?_⟩; replace HK := Aside0.mk (KeepBut.trans (by repeat (first | (with_reducible first | exact HK.out | apply KeepBut.set_ | apply keep_drewN | apply keep_drew | apply keep_alloc) | exact HK.out)) hk (.inl rfl)); replace HB := Aside0.mk (hb); replace HI0 := Aside0.mk (hi); (try clear hb); (try clear hk); (try clear hi)))
 go_ret
 exact ⟨M.eqe, by repeat (first | (with_reducible first | exact HI0.out | apply IsS100.alloc | apply IsS100.drewN | apply IsS100.drew | apply IsS100.set_0 | apply IsS100.set_1 | apply IsS100.set_2 | apply IsS100.set_3) | exact HI0.out), by repeat (first | (with_reducible first | exact HB.out | apply below_alloc | apply pw_below_drewN | apply below_drew1 | refine below_set ?_ (IsS100.ge HI0.out)) | exact HB.out), by repeat (first | (with_reducible first | exact HK.out | apply KeepBut.set_ | apply keep_drewN | apply keep_drew | apply keep_alloc) | exact HK.out)⟩
def scan_Scan_Fix.f (s0_0 : ByteArray) (s0_1 : Int) (s0_2 : Int) (s0_3 : Bool) (a1 : Int) : Option (ByteArray × ByteArray × Int × Int × Bool) := scan_Scan_take.f s0_0 s0_1 s0_2 s0_3 a1
theorem scan_Scan_Fix.ev (s : ByteArray) (p er : Int) (md : Bool) (n : Int) (r : ByteArray × ByteArray × Int × Int × Bool) (h : scan_Scan_Fix.f s p er md n = some r) : scan_Scan_Fix_p.f s p er md n = some r := by
 unfold scan_Scan_Fix.f at h
 unfold scan_Scan_Fix_p.f
 rw [h]; rfl
theorem scan_Scan_Fix.calls (g : Nat) (s0_0 : ByteArray) (s0_1 : Int) (s0_2 : Int) (s0_3 : Bool) (a1 : Int) (r1 : ByteArray) (r2 : ByteArray) (r3 : Int) (r4 : Int) (r5 : Bool) (w0 w : World) (hI : IsS100 w0 w g s0_0 s0_1 s0_2 s0_3) (hB : Below w0.heap.size w0 w) (h : scan_Scan_Fix.f s0_0 s0_1 s0_2 s0_3 a1 = some (r1, r2, r3, r4, r5)) :
    Calls Tryd.prog 33 #[.pointer (some ⟨g, 0, none⟩), .int .i64 a1] w fun e w' => e = .returned (.string r1) ∧ IsS100 w0 w' g r2 r3 r4 r5 ∧ Below w0.heap.size w0 w' ∧ KeepBut w w' g none := by
 exact scan_Scan_Fix_p.calls (w := w) (h := scan_Scan_Fix.ev _ _ _ _ _ _ h) (hI := hI) (hB := hB)
def scan_Scan_Text_p.f (s0_0 : ByteArray) (s0_1 : Int) (s0_2 : Int) (s0_3 : Bool) (a1 : Int) : Option (ByteArray × ByteArray × Int × Int × Bool) := (scan_Scan_Num.f s0_0 s0_1 s0_2 s0_3 a1).bind fun bt125 => ((scan_Scan_take.f bt125.2.1 bt125.2.2.1 bt125.2.2.2.1 bt125.2.2.2.2 bt125.1).bind fun bt130 => (some (bt130.1, bt130.2.1, bt130.2.2.1, bt130.2.2.2.1, bt130.2.2.2.2)))
set_option maxHeartbeats 8000000 in
set_option maxRecDepth 100000 in
theorem scan_Scan_Text_p.calls (g : Nat) (s0_0 : ByteArray) (s0_1 : Int) (s0_2 : Int) (s0_3 : Bool) (a1 : Int) (r1 : ByteArray) (r2 : ByteArray) (r3 : Int) (r4 : Int) (r5 : Bool) (w0 w : World) (hI : IsS100 w0 w g s0_0 s0_1 s0_2 s0_3) (hB : Below w0.heap.size w0 w) (h : scan_Scan_Text_p.f s0_0 s0_1 s0_2 s0_3 a1 = some (r1, r2, r3, r4, r5)) :
    Calls Tryd.prog 34 #[.pointer (some ⟨g, 0, none⟩), .int .i64 a1] w fun e w' => e = .returned (.string r1) ∧ IsS100 w0 w' g r2 r3 r4 r5 ∧ Below w0.heap.size w0 w' ∧ KeepBut w w' g none := by
 have HI0 := Aside0.mk hI
 have HK := Aside0.mk (KeepBut.refl w g none)
 have HL := Aside0.mk hB.size
 clear hI
 have HW0 := Aside0.mk hB.size
 have HB := Aside0.mk hB
 clear hB
 have H : ((scan_Scan_Num.f s0_0 s0_1 s0_2 s0_3 a1).bind fun bt125 => ((scan_Scan_take.f bt125.2.1 bt125.2.2.1 bt125.2.2.2.1 bt125.2.2.2.2 bt125.1).bind fun bt130 => (some (bt130.1, bt130.2.1, bt130.2.2.1, bt130.2.2.2.1, bt130.2.2.2.2)))) = some (r1, r2, r3, r4, r5) := h
 clear h
 replace H := Option.bind_eq_some_iff.mp H
 obtain ⟨⟨t125, t126, t127, t128, t129⟩, A30, H⟩ := H
 replace H : ((scan_Scan_take.f t126 t127 t128 t129 t125).bind fun bt130 => (some (bt130.1, bt130.2.1, bt130.2.2.1, bt130.2.2.2.1, bt130.2.2.2.2))) = some (r1, r2, r3, r4, r5) := H
 have A3 := Aside0.mk A30
 clear A30
 replace H := Option.bind_eq_some_iff.mp H
 obtain ⟨⟨t130, t131, t132, t133, t134⟩, A40, H⟩ := H
 replace H : (some (t130, t131, t132, t133, t134)) = some (r1, r2, r3, r4, r5) := H
 have A4 := Aside0.mk A40
 clear A40
 simp only [Option.some.injEq, Prod.mk.injEq] at H
 obtain ⟨rfl, rfl, rfl, rfl, rfl⟩ := H
 go_enter Tryd.func34, Tryd.ntmps34
 go_wp2_with (first | ((with_reducible refine gate_callee (f := 32) rfl ?_); refine M.goes (some 8) Tryd.func32 #[.pointer (some ⟨g, 0, none⟩), .int .i64 a1] rfl ?_; (with_reducible refine (scan_Scan_Num.calls g s0_0 s0_1 s0_2 s0_3 a1 t125 t126 t127 t128 t129 w0 _ ?side1 ?side2 A3.out).mono ?_); (case side1 => repeat (first | (with_reducible first | exact HI0.out | apply IsS100.alloc | apply IsS100.drewN | apply IsS100.drew | apply IsS100.set_0 | apply IsS100.set_1 | apply IsS100.set_2 | apply IsS100.set_3) | exact HI0.out)); (case side2 => repeat (first | (with_reducible first | exact HB.out | apply below_alloc | apply pw_below_drewN | apply below_drew1 | refine below_set ?_ (IsS100.ge HI0.out)) | exact HB.out)); rintro e w5 ⟨rfl, hi, hb, hk⟩; refine ⟨_, rfl, ?_⟩; replace HK := Aside0.mk (KeepBut.trans (by repeat (first | (with_reducible first | exact HK.out | apply KeepBut.set_ | apply keep_drewN | apply keep_drew | apply keep_alloc) | exact HK.out)) hk (.inl rfl)); replace HB := Aside0.mk (hb); replace HI0 := Aside0.mk (hi); (try clear hb); (try clear hk); (try clear hi)) | ((with_reducible refine gate_callee (f := 53) rfl ?_); refine M.goes (some 9) Tryd.func53 #[.pointer (some ⟨g, 0, none⟩), .int .i64 t125] rfl ?_; (with_reducible refine (scan_Scan_take.calls g t126 t127 t128 t129 t125 t130 t131 t132 t133 t134 w0 _ ?side1 ?side2 A4.out).mono ?_); (case side1 => repeat (first | (with_reducible first | exact HI0.out | apply IsS100.alloc | apply IsS100.drewN | apply IsS100.drew | apply IsS100.set_0 | apply IsS100.set_1 | apply IsS100.set_2 | apply IsS100.set_3) | exact HI0.out)); (case side2 => repeat (first | (with_reducible first | exact HB.out | apply below_alloc | apply pw_below_drewN | apply below_drew1 | refine below_set ?_ (IsS100.ge HI0.out)) | exact HB.out)); rintro e w6 ⟨rfl, hi, hb, hk⟩; refine ⟨_, rfl, ?_⟩; replace HK := Aside0.mk (KeepBut.trans (by repeat (first | (with_reducible first | exact HK.out | apply KeepBut.set_ | apply keep_drewN | apply keep_drew | apply keep_alloc) | exact HK.out)) hk (.inl rfl)); replace HB := Aside0.mk (hb); replace HI0 := Aside0.mk (hi); (try clear hb); (try clear hk); (try clear hi)))
 go_ret
 exact ⟨M.eqe, by repeat (first | (with_reducible first | exact HI0.out | apply IsS100.alloc | apply IsS100.drewN | apply IsS100.drew | apply IsS100.set_0 | apply IsS100.set_1 | apply IsS100.set_2 | apply IsS100.set_3) | exact HI0.out), by repeat (first | (with_reducible first | exact HB.out | apply below_alloc | apply pw_below_drewN | apply below_drew1 | refine below_set ?_ (IsS100.ge HI0.out)) | exact HB.out), by repeat (first | (with_reducible first | exact HK.out | apply KeepBut.set_ | apply keep_drewN | apply keep_drew | apply keep_alloc) | exact HK.out)⟩
def scan_Scan_Text.f (s0_0 : ByteArray) (s0_1 : Int) (s0_2 : Int) (s0_3 : Bool) (a1 : Int) : Option (ByteArray × ByteArray × Int × Int × Bool) :=
  if s0_3 = true then (if M.sok s0_0 s0_1 ∧ a1 ≤ 9223372036854775807 then some ((M.xtext s0_0 s0_1 s0_2 a1).1, s0_0, (M.xtext s0_0 s0_1 s0_2 a1).2.1, (M.xtext s0_0 s0_1 s0_2 a1).2.2, true) else none) else some (M.sb [], s0_0, s0_1, s0_2, s0_3)
theorem scan_Scan_Text.ev (s : ByteArray) (p er : Int) (md : Bool) (n : Int) (r : ByteArray × ByteArray × Int × Int × Bool) (h : scan_Scan_Text.f s p er md n = some r) : scan_Scan_Text_p.f s p er md n = some r := by
 unfold scan_Scan_Text.f at h
 unfold scan_Scan_Text_p.f scan_Scan_Num.f
 cases md with
 | false =>
  rw [if_neg (by simp)] at h ⊢
  rw [Option.bind_some]
  unfold scan_Scan_take.f
  simp only
  rw [if_neg (by simp)]; exact h
 | true =>
  rw [if_pos rfl] at h
  split at h
  case isFalse => cases h
  case isTrue hh =>
   obtain ⟨hs, hm⟩ := hh
   rw [← h]
   unfold M.xtext M.xnum
   by_cases he : er = 0
   ·rw [if_pos ⟨rfl, he⟩, if_pos ⟨hs, hm⟩, Option.bind_some]
    simp only [if_pos he]
    have hr := M.snum_range s hs hm
    unfold scan_Scan_take.f
    rw [if_pos rfl, if_pos ⟨M.snum_ok s n hs, by omega, by omega⟩]; rfl
   ·rw [if_neg (fun z => he z.2), Option.bind_some]
    simp only [if_neg he]
    unfold scan_Scan_take.f
    rw [if_pos rfl, if_pos ⟨hs, by decide, by decide⟩]; rfl
theorem scan_Scan_Text.calls (g : Nat) (s0_0 : ByteArray) (s0_1 : Int) (s0_2 : Int) (s0_3 : Bool) (a1 : Int) (r1 : ByteArray) (r2 : ByteArray) (r3 : Int) (r4 : Int) (r5 : Bool) (w0 w : World) (hI : IsS100 w0 w g s0_0 s0_1 s0_2 s0_3) (hB : Below w0.heap.size w0 w) (h : scan_Scan_Text.f s0_0 s0_1 s0_2 s0_3 a1 = some (r1, r2, r3, r4, r5)) :
    Calls Tryd.prog 34 #[.pointer (some ⟨g, 0, none⟩), .int .i64 a1] w fun e w' => e = .returned (.string r1) ∧ IsS100 w0 w' g r2 r3 r4 r5 ∧ Below w0.heap.size w0 w' ∧ KeepBut w w' g none := by
 exact scan_Scan_Text_p.calls (w := w) (h := scan_Scan_Text.ev _ _ _ _ _ _ h) (hI := hI) (hB := hB)
def scan_Scan_End.f (s0_0 : ByteArray) (s0_1 : Int) (s0_2 : Int) (s0_3 : Bool) : Option (Int × ByteArray × Int × Int × Bool) :=
  if s0_3 = true then (if s0_2 = 0 ∧ s0_1 < s0_0.size then some (3, s0_0, s0_1, 3, true) else some (s0_2, s0_0, s0_1, s0_2, true)) else some (1, s0_0, s0_1, s0_2, false)
theorem scan_Scan_End.err1 (g : Nat) (s : ByteArray) (p er : Int) (w0 w : World) (hI : IsS100 w0 w g s p er true) :
    Calls Tryd.prog 54 #[.pointer (some ⟨g, 0, none⟩)] w fun e w' => e = .returned (.int .i64 er) ∧ w' = w := by
 have h2 := cellS100_2 hI.1
 have h3 := cellS100_3 hI.1
 clear hI
 go_enter Tryd.func54, Tryd.ntmps54
 go_wp2
 go_ret
 exact ⟨rfl, rfl⟩
theorem scan_Scan_End.err0 (g : Nat) (s : ByteArray) (p er : Int) (w0 w : World) (hI : IsS100 w0 w g s p er false) :
    Calls Tryd.prog 54 #[.pointer (some ⟨g, 0, none⟩)] w fun e w' => e = .returned (.int .i64 1) ∧ w' = w := by
 have h2 := cellS100_2 hI.1
 have h3 := cellS100_3 hI.1
 clear hI
 go_enter Tryd.func54, Tryd.ntmps54
 go_wp2
 go_ret
 exact ⟨rfl, rfl⟩
set_option maxHeartbeats 1000000 in
theorem scan_Scan_End.off (g : Nat) (s : ByteArray) (p er : Int) (w0 w : World) (hI : IsS100 w0 w g s p er true) (hB : Below w0.heap.size w0 w) (he : er ≠ 0) :
    Calls Tryd.prog 35 #[.pointer (some ⟨g, 0, none⟩)] w fun e w' => e = .returned (.int .i64 er) ∧ IsS100 w0 w' g s p er true ∧ Below w0.heap.size w0 w' ∧ KeepBut w w' g none := by
 have hb0 : (er == 0) = false := by simpa using he
 have HI := Aside0.mk hI
 have HB := Aside0.mk hB
 clear he hI hB
 go_enter Tryd.func35, Tryd.ntmps35
 go_wp2
 go_quiet ((go_at_call 54; exact Calls.quiet_of_same (scan_Scan_End.err1 g s p er w0 _ HI.out)))
 go_wp2_with (go_at_call 54; refine (scan_Scan_Err.calls g s p er true er s p er true w0 _ (IsS100.drewN HI.out _) (pw_below_drewN HB.out _) rfl).mono ?_; rintro e w2 ⟨rfl, hi2, hb2, hk2⟩)
 go_ret
 exact ⟨rfl, hi2, hb2, KeepBut.trans (keep_drewN (KeepBut.refl w g none) _) hk2 (.inl rfl)⟩
set_option maxHeartbeats 1000000 in
theorem scan_Scan_End.none_ (g : Nat) (s : ByteArray) (p er : Int) (w0 w : World) (hI : IsS100 w0 w g s p er false) (hB : Below w0.heap.size w0 w) :
    Calls Tryd.prog 35 #[.pointer (some ⟨g, 0, none⟩)] w fun e w' => e = .returned (.int .i64 1) ∧ IsS100 w0 w' g s p er false ∧ Below w0.heap.size w0 w' ∧ KeepBut w w' g none := by
 have HI := Aside0.mk hI
 have HB := Aside0.mk hB
 clear hI hB
 go_enter Tryd.func35, Tryd.ntmps35
 go_wp2
 go_quiet ((go_at_call 54; exact Calls.quiet_of_same (scan_Scan_End.err0 g s p er w0 _ HI.out)))
 go_wp2_with (go_at_call 54; refine (scan_Scan_Err.calls g s p er false 1 s p er false w0 _ (IsS100.drewN HI.out _) (pw_below_drewN HB.out _) rfl).mono ?_; rintro e w2 ⟨rfl, hi2, hb2, hk2⟩)
 go_ret
 exact ⟨rfl, hi2, hb2, KeepBut.trans (keep_drewN (KeepBut.refl w g none) _) hk2 (.inl rfl)⟩
set_option maxHeartbeats 1000000 in
theorem scan_Scan_End.more (g : Nat) (s : ByteArray) (p : Int) (w0 w : World) (hI : IsS100 w0 w g s p 0 true) (hB : Below w0.heap.size w0 w) (hp : p < s.size) :
    Calls Tryd.prog 35 #[.pointer (some ⟨g, 0, none⟩)] w fun e w' => e = .returned (.int .i64 3) ∧ IsS100 w0 w' g s p 3 true ∧ Below w0.heap.size w0 w' ∧ KeepBut w w' g none := by
 have ht : decide (p < (s.size : Int)) = true := decide_eq_true hp
 have hc0 := cellS100_0 hI.1
 have hc1 := cellS100_1 hI.1
 have hc2 := cellS100_2 hI.1
 have hf2 := blk_frozen hI.1 2
 have HI := Aside0.mk hI
 have HB := Aside0.mk hB
 clear hI hB hp
 go_enter Tryd.func35, Tryd.ntmps35
 go_wp2
 go_quiet ((go_at_call 54; exact Calls.quiet_of_same (scan_Scan_End.err1 g s p 0 w0 _ HI.out)))
 go_wp2_with (go_at_call 54; refine (scan_Scan_Err.calls g s p 3 true 3 s p 3 true w0 _ (IsS100.set_2 (IsS100.drewN HI.out _) 3) (below_set (pw_below_drewN HB.out _) (IsS100.ge HI.out)) rfl).mono ?_; rintro e w2 ⟨rfl, hi2, hb2, hk2⟩)
 go_ret
 exact ⟨rfl, hi2, hb2, KeepBut.trans (KeepBut.set_ (keep_drewN (KeepBut.refl w g none) _) _ _) hk2 (.inl rfl)⟩
set_option maxHeartbeats 1000000 in
theorem scan_Scan_End.done_ (g : Nat) (s : ByteArray) (p : Int) (w0 w : World) (hI : IsS100 w0 w g s p 0 true) (hB : Below w0.heap.size w0 w) (hp : ¬ p < s.size) :
    Calls Tryd.prog 35 #[.pointer (some ⟨g, 0, none⟩)] w fun e w' => e = .returned (.int .i64 0) ∧ IsS100 w0 w' g s p 0 true ∧ Below w0.heap.size w0 w' ∧ KeepBut w w' g none := by
 have ht : decide (p < (s.size : Int)) = false := decide_eq_false hp
 have hc0 := cellS100_0 hI.1
 have hc1 := cellS100_1 hI.1
 have HI := Aside0.mk hI
 have HB := Aside0.mk hB
 clear hI hB hp
 go_enter Tryd.func35, Tryd.ntmps35
 go_wp2
 go_quiet ((go_at_call 54; exact Calls.quiet_of_same (scan_Scan_End.err1 g s p 0 w0 _ HI.out)))
 go_wp2_with (go_at_call 54; refine (scan_Scan_Err.calls g s p 0 true 0 s p 0 true w0 _ (IsS100.drewN HI.out _) (pw_below_drewN HB.out _) rfl).mono ?_; rintro e w2 ⟨rfl, hi2, hb2, hk2⟩)
 go_ret
 exact ⟨rfl, hi2, hb2, KeepBut.trans (keep_drewN (KeepBut.refl w g none) _) hk2 (.inl rfl)⟩
theorem scan_Scan_End.calls (g : Nat) (s0_0 : ByteArray) (s0_1 : Int) (s0_2 : Int) (s0_3 : Bool) (r1 : Int) (r2 : ByteArray) (r3 : Int) (r4 : Int) (r5 : Bool) (w0 w : World) (hI : IsS100 w0 w g s0_0 s0_1 s0_2 s0_3) (hB : Below w0.heap.size w0 w) (h : scan_Scan_End.f s0_0 s0_1 s0_2 s0_3 = some (r1, r2, r3, r4, r5)) :
    Calls Tryd.prog 35 #[.pointer (some ⟨g, 0, none⟩)] w fun e w' => e = .returned (.int .i64 r1) ∧ IsS100 w0 w' g r2 r3 r4 r5 ∧ Below w0.heap.size w0 w' ∧ KeepBut w w' g none := by
 unfold scan_Scan_End.f at h
 cases s0_3 with
 | false =>
  rw [if_neg (by simp)] at h
  simp only [Option.some.injEq, Prod.mk.injEq] at h
  obtain ⟨rfl, rfl, rfl, rfl, rfl⟩ := h
  exact scan_Scan_End.none_ g _ _ _ w0 w hI hB
 | true =>
  rw [if_pos rfl] at h
  by_cases h0 : s0_2 = 0
  ·subst h0
   by_cases hp : s0_1 < s0_0.size
   ·rw [if_pos ⟨rfl, hp⟩] at h
    simp only [Option.some.injEq, Prod.mk.injEq] at h
    obtain ⟨rfl, rfl, rfl, rfl, rfl⟩ := h
    exact scan_Scan_End.more g _ _ w0 w hI hB hp
   ·rw [if_neg (fun z => hp z.2)] at h
    simp only [Option.some.injEq, Prod.mk.injEq] at h
    obtain ⟨rfl, rfl, rfl, rfl, rfl⟩ := h
    exact scan_Scan_End.done_ g _ _ w0 w hI hB hp
  ·rw [if_neg (fun z => h0 z.1)] at h
   simp only [Option.some.injEq, Prod.mk.injEq] at h
   obtain ⟨rfl, rfl, rfl, rfl, rfl⟩ := h
   exact scan_Scan_End.off g _ _ _ w0 w hI hB h0
theorem scan_Scan_End.eq (s : ByteArray) (p er : Int) : scan_Scan_End.f s p er true = some (M.xend s p er, s, p, M.xend s p er, true) := by
 unfold scan_Scan_End.f M.xend
 rw [if_pos rfl]
 by_cases hc : er = 0 ∧ p < s.size
 ·simp only [if_pos hc]
 ·simp only [if_neg hc]
end Go.Proofs.YtikdbklmhjlfoaaDoor.ECommitKnots
