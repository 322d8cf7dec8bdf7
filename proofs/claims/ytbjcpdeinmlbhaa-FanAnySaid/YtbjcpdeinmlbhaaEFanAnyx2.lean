-- Written by this session's own program (wip/tools/ext.py) for this claim; Lean checks it.
import Derived.Test.YtbjcpdeinmlbhaaEFanAnyx0
import Derived.Test.YtbjcpdeinmlbhaaEFanAnyx1
namespace Go.Proofs.Ytbjcpdeinmlbhaa.EFanAny
open Go.RowKit Go.Proofs.YtbjcpdeinmlbhaaW.PrintWords Go.Proofs.YtbjcpdeinmlbhaaW.PrintLast Go.Proofs.YtbjcpdeinmlbhaaW.PrintMore
attribute [local go_sem] M.run_leq M.run_gtr M.run_geq max2_int min2_int max_two min_two max_three min_three max_four min_four   -- for this text's walks alone
set_option linter.unusedVariables false
set_option linter.unusedSimpArgs false

/-! ### fan_Fan_Span: function 13 -/
def fan_Fan_Span.f (xs : List Int) (k : Int) : Option (Int × Int) := if xs.length = 16 then some (if 0 ≤ k ∧ k < 16 then ((if 0 < k then xs.getD (k - 1).toNat 0 else 0), xs.getD k.toNat 0) else (0, 0)) else none
theorem fan_Fan_Span.blk {w : World} {g : Nat} {t : TypeId} {xs : List Int} (h : w.heap[g]? = some (.cells (nums .i64 xs).toArray t (0, 0))) (j : Nat) (hj : j < xs.length) : w.cell? ⟨g, j, none⟩ = some (.int .i64 (xs.getD j 0)) := by
  simp [World.cell?, h, nums, hj]
theorem fan_Fan_Span.whole {w : World} {g : Nat} {t : TypeId} {xs : List Int} (h : w.heap[g]? = some (.cells (nums .i64 xs).toArray t (0, 0))) (hx : xs.length = 16) :
    (loadCellsFrom ⟨g, 0, none⟩ 0 16 #[]).run Try.prog w = .ok (nums .i64 xs).toArray w := by
  have hl : (nums .i64 xs).length = 16 := by simp [nums, hx]
  have := run_loadCells_list (P := Try.prog) w ⟨g, 0, none⟩ (nums .i64 xs) (fun j v hv => by
    rw [add_plain]
    have hj := (List.getElem?_eq_some_iff.1 hv).1
    simp [World.cell?, h]
    simpa using hv)
  rw [hl] at this
  exact this
set_option maxHeartbeats 8000000 in
set_option maxRecDepth 100000 in
theorem fan_Fan_Span.out_ (xs : List Int) (k : Int) (w : World) (hk : k < 0 ∨ 16 ≤ k) :
    Calls Try.prog 13 #[.agg (nums .i64 xs).toArray, .int .i64 k] w fun e w' => e = .returned (.tuple #[.int .i64 0, .int .i64 0]) ∧ Below w.heap.size w w' := by
  have HB := Aside0.mk (Below.refl w.heap.size w)
  rcases hk with hk | hk
  · have ht : decide (k < 0) = true := decide_eq_true hk
    go_enter Try.func13, Try.ntmps13
    go_wp2
    go_ret2
    exact ⟨rfl, M.up HB⟩
  · have ht : decide (k < 0) = false := decide_eq_false (by omega)
    have ht2 : decide (k ≥ 16) = true := decide_eq_true (by omega)
    have ht3 : decide (16 ≤ k) = true := decide_eq_true (by omega)
    go_enter Try.func13, Try.ntmps13
    go_wp2
    go_ret2
    exact ⟨rfl, M.up HB⟩
set_option maxHeartbeats 8000000 in
set_option maxRecDepth 100000 in
theorem fan_Fan_Span.first_ (xs : List Int) (hx : xs.length = 16) (r : Int) (hr : r = xs.getD 0 0) (w : World) :
    Calls Try.prog 13 #[.agg (nums .i64 xs).toArray, .int .i64 0] w fun e w' => e = .returned (.tuple #[.int .i64 0, .int .i64 r]) ∧ Below w.heap.size w w' := by
  have HB := Aside0.mk (Below.refl w.heap.size w)
  have HR := Aside0.mk hr
  clear hr
  go_enter Try.func13, Try.ntmps13
  go_wp2_with (first | ((with_reducible refine gate_dst (N := 2) rfl ?_); refine box_event ?hg (N := 2) ?hd (cs := (nums .i64 xs).toArray) (t := 26) ?hr ?_; (case hd => rfl); (case hg => rfl); (case hr => first | (go_simp; done) | (go_simp; rfl)); intro gb hg w2 hbox hb; subst hg; have hc2 := fan_Fan_Span.blk hbox 0 (by omega); rw [← HR.out] at hc2; have n1_ := Aside0.mk (below_step HB.out hb); clear HB; have HB := n1_; clear n1_ hb hbox))
  go_region
  go_wp2
  go_ret2
  exact ⟨rfl, M.up HB⟩
set_option maxHeartbeats 8000000 in
set_option maxRecDepth 100000 in
theorem fan_Fan_Span.more (xs : List Int) (hx : xs.length = 16) (k : Nat) (h0 : 0 < k) (hk : k < 16) (r1 r2 : Int) (hr1 : r1 = xs.getD (k - 1) 0) (hr2 : r2 = xs.getD k 0) (w : World) :
    Calls Try.prog 13 #[.agg (nums .i64 xs).toArray, .int .i64 k] w fun e w' => e = .returned (.tuple #[.int .i64 r1, .int .i64 r2]) ∧ Below w.heap.size w w' := by
  have HB := Aside0.mk (Below.refl w.heap.size w)
  have ht : decide ((k : Int) < 0) = false := decide_eq_false (by omega)
  have ht2 : decide ((k : Int) ≥ 16) = false := decide_eq_false (by omega)
  have ht3 : decide (16 ≤ (k : Int)) = false := decide_eq_false (by omega)
  have ht4 : decide ((k : Int) > 0) = true := decide_eq_true (by omega)
  have HR1 := Aside0.mk hr1
  have HR2 := Aside0.mk hr2
  clear hr1 hr2
  go_enter Try.func13, Try.ntmps13
  go_wp2_with (first | ((with_reducible refine gate_dst (N := 2) rfl ?_); refine box_event ?hg (N := 2) ?hd (cs := (nums .i64 xs).toArray) (t := 26) ?hr ?_; (case hd => rfl); (case hg => rfl); (case hr => first | (go_simp; done) | (go_simp; rfl)); intro gb hg w2 hbox hb; subst hg; have hc1 := fan_Fan_Span.blk hbox (k - 1) (by omega); have hc2 := fan_Fan_Span.blk hbox k (by omega); rw [← HR1.out] at hc1; rw [← HR2.out] at hc2; have n1_ := Aside0.mk (below_step HB.out hb); clear HB; have HB := n1_; clear n1_ hb hbox))
  go_region
  go_wp2
  go_ret2
  exact ⟨rfl, M.up HB⟩
theorem fan_Fan_Span.calls (xs : List Int) (a1 r1 r2 : Int) (w : World) (h : fan_Fan_Span.f xs a1 = some (r1, r2)) :
    Calls Try.prog 13 #[.agg (nums .i64 xs).toArray, .int .i64 a1] w fun e w' => e = .returned (.tuple #[.int .i64 r1, .int .i64 r2]) ∧ Below w.heap.size w w' := by
  unfold fan_Fan_Span.f at h
  split at h
  case isFalse => cases h
  case isTrue hx =>
    have h := Option.some.inj h
    split at h
    · rename_i hk
      obtain ⟨k, rfl⟩ := Int.eq_ofNat_of_zero_le hk.1
      simp only [Prod.mk.injEq] at h
      by_cases h0 : 0 < k
      · rw [if_pos (by omega), show ((k : Int) - 1).toNat = k - 1 from by omega, Int.toNat_natCast] at h
        exact fan_Fan_Span.more xs hx k h0 (by omega) r1 r2 h.1.symm h.2.symm w
      · obtain rfl : k = 0 := by omega
        rw [if_neg (by omega)] at h
        obtain ⟨rfl, h2⟩ := h
        exact fan_Fan_Span.first_ xs hx r2 h2.symm w
    · rename_i hk
      simp only [Prod.mk.injEq] at h
      obtain ⟨rfl, rfl⟩ := h
      exact fan_Fan_Span.out_ xs a1 w (by omega)

/-! ### cmp_isNaN_string: function 27 -/
def cmp_isNaN_string.f (a0 : ByteArray) : Option (Bool) := some (a0.toList != a0.toList)
set_option maxHeartbeats 8000000 in
set_option maxRecDepth 100000 in
theorem cmp_isNaN_string.calls (a0 : ByteArray) (r : Bool) (w : World) (h : cmp_isNaN_string.f a0 = some r) :
    Calls Try.prog 27 #[.string a0] w fun e w' => e = .returned (.bool r) ∧ Drawn0 w w' := by
  have H : (some (a0.toList != a0.toList)) = some r := h
  clear h
  obtain rfl := Option.some.inj H
  go_enter Try.func27, Try.ntmps27
  go_wp2
  go_ret
  exact ⟨by first | rfl | (simp; done) | (simp [*]; done), by repeat (first | exact Drawn0.refl _ | apply Drawn0.step)⟩

/-! ### cmp_Less_string: function 25 -/
def cmp_Less_string.f (a0 : ByteArray) (a1 : ByteArray) : Option (Bool) := (cmp_isNaN_string.f a0).bind fun t111 => (if t111 = true then ((cmp_isNaN_string.f a1).bind fun t112 => (if t112 = true then (some (Op.bytesLess a0.toList a1.toList)) else (some true))) else (some (Op.bytesLess a0.toList a1.toList)))
set_option maxHeartbeats 8000000 in
set_option maxRecDepth 100000 in
theorem cmp_Less_string.calls (a0 : ByteArray) (a1 : ByteArray) (r : Bool) (w : World) (h : cmp_Less_string.f a0 a1 = some r) :
    Calls Try.prog 25 #[.string a0, .string a1] w fun e w' => e = .returned (.bool r) ∧ Drawn0 w w' := by
  have H : ((cmp_isNaN_string.f a0).bind fun t111 => (if t111 = true then ((cmp_isNaN_string.f a1).bind fun t112 => (if t112 = true then (some (Op.bytesLess a0.toList a1.toList)) else (some true))) else (some (Op.bytesLess a0.toList a1.toList)))) = some r := h
  clear h
  replace H := Option.bind_eq_some_iff.mp H
  obtain ⟨t111, A30, H⟩ := H
  replace H : (if t111 = true then ((cmp_isNaN_string.f a1).bind fun t112 => (if t112 = true then (some (Op.bytesLess a0.toList a1.toList)) else (some true))) else (some (Op.bytesLess a0.toList a1.toList))) = some r := H
  have A3 := Aside0.mk A30
  clear A30
  by_cases c4 : t111 = true
  · subst c4
    have H1 : ((cmp_isNaN_string.f a1).bind fun t112 => (if t112 = true then (some (Op.bytesLess a0.toList a1.toList)) else (some true))) = some r := by rw [if_pos rfl] at H; exact H
    clear H
    have H := H1
    clear H1
    replace H := Option.bind_eq_some_iff.mp H
    obtain ⟨t112, A50, H⟩ := H
    replace H : (if t112 = true then (some (Op.bytesLess a0.toList a1.toList)) else (some true)) = some r := H
    have A5 := Aside0.mk A50
    clear A50
    by_cases c6 : t112 = true
    · subst c6
      have H1 : (some (Op.bytesLess a0.toList a1.toList)) = some r := by rw [if_pos rfl] at H; exact H
      clear H
      have H := H1
      clear H1
      obtain rfl := Option.some.inj H
      go_enter Try.func25, Try.ntmps25
      go_wp2_with (first | ((with_reducible refine gate_callee (f := 27) rfl ?_); refine M.goes (some 6) Try.func27 #[.string a0] rfl ?_; (with_reducible refine (cmp_isNaN_string.calls a0 true _ A3.out).mono ?_); rintro e w' ⟨rfl, ⟨nd, rfl⟩⟩; refine ⟨_, rfl, ?_⟩) | (go_at_call 27; (with_reducible refine (cmp_isNaN_string.calls a1 true _ A5.out).mono ?_); rintro e w' ⟨rfl, ⟨nd, rfl⟩⟩))
      go_ret
      exact ⟨by first | rfl | (simp; done) | (simp [*]; done), by repeat (first | exact Drawn0.refl _ | apply Drawn0.step)⟩
    · replace c6 := Bool.eq_false_iff.mpr c6
      subst c6
      have H1 : (some true) = some r := by rw [if_neg (show ¬ (false = true) by decide)] at H; exact H
      clear H
      have H := H1
      clear H1
      obtain rfl := Option.some.inj H
      go_enter Try.func25, Try.ntmps25
      go_wp2_with (first | ((with_reducible refine gate_callee (f := 27) rfl ?_); refine M.goes (some 6) Try.func27 #[.string a0] rfl ?_; (with_reducible refine (cmp_isNaN_string.calls a0 true _ A3.out).mono ?_); rintro e w' ⟨rfl, ⟨nd, rfl⟩⟩; refine ⟨_, rfl, ?_⟩) | (go_at_call 27; (with_reducible refine (cmp_isNaN_string.calls a1 false _ A5.out).mono ?_); rintro e w' ⟨rfl, ⟨nd, rfl⟩⟩))
      go_ret
      exact ⟨by first | rfl | (simp; done) | (simp [*]; done), by repeat (first | exact Drawn0.refl _ | apply Drawn0.step)⟩
  · replace c4 := Bool.eq_false_iff.mpr c4
    subst c4
    have H1 : (some (Op.bytesLess a0.toList a1.toList)) = some r := by rw [if_neg (show ¬ (false = true) by decide)] at H; exact H
    clear H
    have H := H1
    clear H1
    obtain rfl := Option.some.inj H
    go_enter Try.func25, Try.ntmps25
    go_wp2_with (first | ((with_reducible refine gate_callee (f := 27) rfl ?_); refine M.goes (some 6) Try.func27 #[.string a0] rfl ?_; (with_reducible refine (cmp_isNaN_string.calls a0 false _ A3.out).mono ?_); rintro e w' ⟨rfl, ⟨nd, rfl⟩⟩; refine ⟨_, rfl, ?_⟩))
    go_ret
    exact ⟨by first | rfl | (simp; done) | (simp [*]; done), by repeat (first | exact Drawn0.refl _ | apply Drawn0.step)⟩

/-! ### slices_isNaN_string: function 26 -/
def slices_isNaN_string.f (a0 : ByteArray) : Option (Bool) := some (a0.toList != a0.toList)
set_option maxHeartbeats 8000000 in
set_option maxRecDepth 100000 in
theorem slices_isNaN_string.calls (a0 : ByteArray) (r : Bool) (w : World) (h : slices_isNaN_string.f a0 = some r) :
    Calls Try.prog 26 #[.string a0] w fun e w' => e = .returned (.bool r) ∧ Drawn0 w w' := by
  have H : (some (a0.toList != a0.toList)) = some r := h
  clear h
  obtain rfl := Option.some.inj H
  go_enter Try.func26, Try.ntmps26
  go_wp2
  go_ret
  exact ⟨by first | rfl | (simp; done) | (simp [*]; done), by repeat (first | exact Drawn0.refl _ | apply Drawn0.step)⟩

/-! ### slices_BinarySearch_string_string_p: function 22 -/
def slices_BinarySearch_string_string_p.l0 : Nat → List ByteArray → ByteArray → Int → Int → Int → Option (Int × Bool)
  | 0, _, _, _, _, _ => none
  | k + 1, x0, x1, x6, x7, x8 => if x7 < x8 then (if 0 ≤ (wrap64 ((IntKind.u64.wrap (wrap64 (x7 + x8))) / 2)) then (if (wrap64 ((IntKind.u64.wrap (wrap64 (x7 + x8))) / 2)) < (x0.length : Int) then ((cmp_Less_string.f (rdOf ByteArray.empty x0 (wrap64 ((IntKind.u64.wrap (wrap64 (x7 + x8))) / 2))) x1).bind fun t114 => (if t114 = true then (slices_BinarySearch_string_string_p.l0 k x0 x1 x6 (wrap64 ((wrap64 ((IntKind.u64.wrap (wrap64 (x7 + x8))) / 2)) + 1)) x8) else (slices_BinarySearch_string_string_p.l0 k x0 x1 x6 x7 (wrap64 ((IntKind.u64.wrap (wrap64 (x7 + x8))) / 2))))) else (none)) else (none)) else (if x7 < x6 then (if 0 ≤ x7 then (if x7 < (x0.length : Int) then (if (rdOf ByteArray.empty x0 x7).toList = x1.toList then (some (x7, true)) else ((slices_isNaN_string.f (rdOf ByteArray.empty x0 x7)).bind fun t117 => (if t117 = true then ((slices_isNaN_string.f x1).bind fun t118 => (some (x7, t118))) else (some (x7, false))))) else (none)) else (none)) else (some (x7, false)))
def slices_BinarySearch_string_string_p.f (k : Nat) (l0 : List ByteArray) (a1 : ByteArray) : Option (Int × Bool) := slices_BinarySearch_string_string_p.l0 k l0 a1 (l0.length : Int) 0 (l0.length : Int)
theorem slices_BinarySearch_string_string_p.mono_l : ∀ k, (∀ y0 y1 y2 y3 y4, LeO (slices_BinarySearch_string_string_p.l0 k y0 y1 y2 y3 y4) (slices_BinarySearch_string_string_p.l0 (k + 1) y0 y1 y2 y3 y4))
  | 0 => fun _ _ _ _ _ r h => by simp [slices_BinarySearch_string_string_p.l0] at h
  | k + 1 => by
    have ih0 := slices_BinarySearch_string_string_p.mono_l k
    · intro y0 y1 y2 y3 y4
      unfold slices_BinarySearch_string_string_p.l0
      repeat' first
      | (with_reducible exact ih0 _ _ _ _ _)
      | (with_reducible exact LeO.refl _)
      | (with_reducible exact LeO.none _)
      | (with_reducible refine LeO.ite ?_ ?_)
      | (with_reducible refine LeO.bind ?_ (fun _ => ?_))
      | exact ih0 _ _ _ _ _
      | exact LeO.none _
      | refine LeO.ite ?_ ?_
      | refine LeO.bind ?_ (fun _ => ?_)
theorem slices_BinarySearch_string_string_p.mono : ∀ a0 a1 k, LeO (slices_BinarySearch_string_string_p.f k a0 a1) (slices_BinarySearch_string_string_p.f (k + 1) a0 a1) := by
  intro a0 a1 k
  have ih0 := slices_BinarySearch_string_string_p.mono_l k
  unfold slices_BinarySearch_string_string_p.f
  repeat' first
      | (with_reducible exact ih0 _ _ _ _ _)
      | (with_reducible exact LeO.refl _)
      | (with_reducible exact LeO.none _)
      | (with_reducible refine LeO.ite ?_ ?_)
      | (with_reducible refine LeO.bind ?_ (fun _ => ?_))
      | exact ih0 _ _ _ _ _
      | exact LeO.none _
      | refine LeO.ite ?_ ?_
      | refine LeO.bind ?_ (fun _ => ?_)
set_option maxHeartbeats 8000000 in
set_option maxRecDepth 100000 in
theorem slices_BinarySearch_string_string_p.calls (k : Nat) (A0 : Option Addr) (c0 : Nat) (l0 : List ByteArray) (a1 : ByteArray) (r1 : Int) (r2 : Bool) (w : World) (hr0 : Kd.C Kd.string w A0 l0.length l0) (hc0 : l0.length ≤ c0) (h : slices_BinarySearch_string_string_p.f k l0 a1 = some (r1, r2)) :
    Calls Try.prog 22 #[.slice A0 l0.length c0, .string a1] w fun e w' => e = .returned (.tuple #[.int .i64 r1, .bool r2]) ∧ Drawn0 w w' := by
  have HR0 := Aside0.mk hr0
  have HC0 := Aside0.mk hc0
  clear hr0 hc0
  have H : (slices_BinarySearch_string_string_p.l0 k l0 a1 (l0.length : Int) 0 (l0.length : Int)) = some (r1, r2) := h
  clear h
  have H' := Aside0.mk H
  clear H
  go_enter Try.func22, Try.ntmps22
  go_wp2
  go_loopg [7, 8] k (fun kq v7 v8 w' => ∃ (x7_1 : Int) (x8_1 : Int), v7 = .int .i64 x7_1 ∧ v8 = .int .i64 x8_1 ∧ Aside0 (slices_BinarySearch_string_string_p.l0 kq l0 a1 (l0.length : Int) x7_1 x8_1 = some (r1, r2)) ∧ Aside0 (kq ≤ k) ∧ Drawn0 w w')
  case atStart => exact ⟨(0), ((l0.length : Int)), (by first | rfl | (simp; done) | (simp [*]; done) | (simp [M.isEmpty_bne]; done)), (by first | rfl | (simp; done) | (simp [*]; done) | (simp [M.isEmpty_bne]; done)), H', ⟨Nat.le_refl _⟩, by repeat (first | exact Drawn0.refl _ | apply Drawn0.step)⟩
  case round =>
    clear H'
    try clear c2
    try clear p2
    obtain ⟨x7_1, x8_1, rfl, rfl, HA, HK1, ⟨m1, rfl⟩⟩ := hrel
    cases gk with
    | zero => exact absurd HA.out (by simp [slices_BinarySearch_string_string_p.l0])
    | succ k1 =>
      have H := HA.out
      clear HA
      simp only [slices_BinarySearch_string_string_p.l0] at H
      by_cases c3 : x7_1 < x8_1
      · rw [if_pos c3] at H
        have c3b0 : decide (x7_1 < x8_1) = true := decide_eq_true c3
        clear c3
        obtain ⟨ji4, hji4⟩ : ∃ j_ : Int, (wrap64 ((IntKind.u64.wrap (wrap64 (x7_1 + x8_1))) / 2)) = j_ := ⟨_, rfl⟩
        replace H : (if 0 ≤ (ji4) then (if (ji4) < (l0.length : Int) then ((cmp_Less_string.f (rdOf ByteArray.empty l0 (ji4)) a1).bind fun t114 => (if t114 = true then (slices_BinarySearch_string_string_p.l0 k1 l0 a1 (l0.length : Int) (wrap64 ((ji4) + 1)) x8_1) else (slices_BinarySearch_string_string_p.l0 k1 l0 a1 (l0.length : Int) x7_1 ji4))) else (none)) else (none)) = some (r1, r2) := by first | (rw [hji4] at H; exact H) | (simp only [hji4] at H ⊢; exact H)
        have hji4w : (IntKind.i64.wrap ((IntKind.u64.wrap (wrap64 (x7_1 + x8_1))) / 2)) = ji4 := (i64_w _).trans hji4
        by_cases c5 : 0 ≤ (ji4)
        · rw [if_pos c5] at H
          have c5b0 : decide (0 ≤ (ji4)) = true := decide_eq_true c5
          clear c5
          by_cases c6 : (ji4) < (l0.length : Int)
          · rw [if_pos c6] at H
            have c6b0 : decide ((ji4) < (l0.length : Int)) = true := decide_eq_true c6
            clear c6
            replace H := Option.bind_eq_some_iff.mp H
            obtain ⟨t114, A70, H⟩ := H
            replace H : (if t114 = true then (slices_BinarySearch_string_string_p.l0 k1 l0 a1 (l0.length : Int) (wrap64 ((ji4) + 1)) x8_1) else (slices_BinarySearch_string_string_p.l0 k1 l0 a1 (l0.length : Int) x7_1 ji4)) = some (r1, r2) := H
            have A7 := Aside0.mk A70
            clear A70
            by_cases c8 : t114 = true
            · subst c8
              have H1 : (slices_BinarySearch_string_string_p.l0 k1 l0 a1 (l0.length : Int) (wrap64 ((ji4) + 1)) x8_1) = some (r1, r2) := by rw [if_pos rfl] at H; exact H
              clear H
              have H := H1
              clear H1
              have H' := Aside0.mk H
              clear H
              have p113 : 0 ≤ ((ji4) : Int) := of_decide_eq_true (by first | (with_reducible assumption) | assumption)
              have q113 : (ji4) < (l0.length : Int) := of_decide_eq_true (by first | (with_reducible assumption) | assumption)
              obtain ⟨ad113, e113, hx113_0⟩ := Kd.at_string HR0.out (ji4) p113 q113
              cases e113
              replace p113 := eq_true p113
              replace q113 := eq_true q113
              go_wp2_with (first | ((with_reducible refine gate_callee (f := 25) rfl ?_); refine goesL_ (some 27) rfl rfl Try.func25 (by kernel_rfl) rfl #[.string (rdOf ByteArray.empty l0 (ji4)), .string a1] rfl (by (try simp only [List.map_toArray, List.map_cons, List.map_nil]); first | done | (simp only [hji4]; rfl) | rfl | (simp only [List.length_drop, List.length_take]; rfl)) ?_; (with_reducible refine (cmp_Less_string.calls (rdOf ByteArray.empty l0 (ji4)) a1 true _ A7.out).mono ?_); rintro e w' ⟨rfl, ⟨nd, rfl⟩⟩; refine ⟨_, rfl, ?_⟩))
              go_roundg k1
              case measure => have := HK1.out; omega
              case rel => exact ⟨(wrap64 ((ji4) + 1)), (x8_1), (by first | rfl | (simp; done) | (simp only [← hji4] <;> (first | rfl | simp)) | (simp [*]; done)), (by first | rfl | (simp; done) | (simp [*]; done) | (simp [M.isEmpty_bne]; done)), H', ⟨by have := HK1.out; omega⟩, by repeat (first | exact Drawn0.refl _ | apply Drawn0.step)⟩
            · replace c8 := Bool.eq_false_iff.mpr c8
              subst c8
              have H1 : (slices_BinarySearch_string_string_p.l0 k1 l0 a1 (l0.length : Int) x7_1 ji4) = some (r1, r2) := by rw [if_neg (show ¬ (false = true) by decide)] at H; exact H
              clear H
              have H := H1
              clear H1
              have H' := Aside0.mk H
              clear H
              have p113 : 0 ≤ ((ji4) : Int) := of_decide_eq_true (by first | (with_reducible assumption) | assumption)
              have q113 : (ji4) < (l0.length : Int) := of_decide_eq_true (by first | (with_reducible assumption) | assumption)
              obtain ⟨ad113, e113, hx113_0⟩ := Kd.at_string HR0.out (ji4) p113 q113
              cases e113
              replace p113 := eq_true p113
              replace q113 := eq_true q113
              go_wp2_with (first | ((with_reducible refine gate_callee (f := 25) rfl ?_); refine goesL_ (some 27) rfl rfl Try.func25 (by kernel_rfl) rfl #[.string (rdOf ByteArray.empty l0 (ji4)), .string a1] rfl (by (try simp only [List.map_toArray, List.map_cons, List.map_nil]); first | done | (simp only [hji4]; rfl) | rfl | (simp only [List.length_drop, List.length_take]; rfl)) ?_; (with_reducible refine (cmp_Less_string.calls (rdOf ByteArray.empty l0 (ji4)) a1 false _ A7.out).mono ?_); rintro e w' ⟨rfl, ⟨nd, rfl⟩⟩; refine ⟨_, rfl, ?_⟩))
              go_roundg k1
              case measure => have := HK1.out; omega
              case rel => exact ⟨(x7_1), (ji4), (by first | rfl | (simp; done) | (simp [*]; done) | (simp [M.isEmpty_bne]; done)), (by first | rfl | (simp; done) | (simp only [← hji4] <;> (first | rfl | simp)) | (simp [*]; done)), H', ⟨by have := HK1.out; omega⟩, by repeat (first | exact Drawn0.refl _ | apply Drawn0.step)⟩
          · rw [if_neg c6] at H
            exact absurd H (by simp)
        · rw [if_neg c5] at H
          exact absurd H (by simp)
      · rw [if_neg c3] at H
        have c3b0 : decide (x7_1 < x8_1) = false := decide_eq_false c3
        clear c3
        by_cases c9 : x7_1 < (l0.length : Int)
        · rw [if_pos c9] at H
          have c9b0 : decide (x7_1 < (l0.length : Int)) = true := decide_eq_true c9
          clear c9
          by_cases c10 : 0 ≤ x7_1
          · rw [if_pos c10] at H
            have c10b0 : decide (0 ≤ x7_1) = true := decide_eq_true c10
            clear c10
            by_cases c11 : x7_1 < (l0.length : Int)
            · rw [if_pos c11] at H
              have c11b0 : decide (x7_1 < (l0.length : Int)) = true := decide_eq_true c11
              clear c11
              by_cases c12 : (rdOf ByteArray.empty l0 x7_1).toList = a1.toList
              · rw [if_pos c12] at H
                have c12b0 : ((rdOf ByteArray.empty l0 x7_1).toList == a1.toList) = true := beq_iff_eq.mpr c12
                have c12b1 : ((rdOf ByteArray.empty l0 x7_1).toList != a1.toList) = false := bne_eq_false_iff_eq.mpr c12
                clear c12
                simp only [Option.some.injEq, Prod.mk.injEq] at H
                obtain ⟨rfl, rfl⟩ := H
                have p115 : 0 ≤ (x7_1 : Int) := of_decide_eq_true (by first | (with_reducible assumption) | assumption)
                have q115 : x7_1 < (l0.length : Int) := of_decide_eq_true (by first | (with_reducible assumption) | assumption)
                obtain ⟨ad115, e115, hx115_0⟩ := Kd.at_string HR0.out x7_1 p115 q115
                cases e115
                replace p115 := eq_true p115
                replace q115 := eq_true q115
                go_wp2
                go_ret2
                exact ⟨by first | rfl | (simp; done) | (simp [*]; done), by repeat (first | exact Drawn0.refl _ | apply Drawn0.step)⟩
              · rw [if_neg c12] at H
                have c12b0 : ((rdOf ByteArray.empty l0 x7_1).toList == a1.toList) = false := beq_eq_false_iff_ne.mpr c12
                have c12b1 : ((rdOf ByteArray.empty l0 x7_1).toList != a1.toList) = true := bne_iff_ne.mpr c12
                replace H := Option.bind_eq_some_iff.mp H
                obtain ⟨t117, A130, H⟩ := H
                replace H : (if t117 = true then ((slices_isNaN_string.f a1).bind fun t118 => (some (x7_1, t118))) else (some (x7_1, false))) = some (r1, r2) := H
                have A13 := Aside0.mk A130
                clear A130
                by_cases c14 : t117 = true
                · subst c14
                  have H1 : ((slices_isNaN_string.f a1).bind fun t118 => (some (x7_1, t118))) = some (r1, r2) := by rw [if_pos rfl] at H; exact H
                  clear H
                  have H := H1
                  clear H1
                  replace H := Option.bind_eq_some_iff.mp H
                  obtain ⟨t118, A150, H⟩ := H
                  replace H : (some (x7_1, t118)) = some (r1, r2) := H
                  have A15 := Aside0.mk A150
                  clear A150
                  simp only [Option.some.injEq, Prod.mk.injEq] at H
                  obtain ⟨rfl, rfl⟩ := H
                  have p115 : 0 ≤ (x7_1 : Int) := of_decide_eq_true (by first | (with_reducible assumption) | assumption)
                  have q115 : x7_1 < (l0.length : Int) := of_decide_eq_true (by first | (with_reducible assumption) | assumption)
                  obtain ⟨ad115, e115, hx115_0⟩ := Kd.at_string HR0.out x7_1 p115 q115
                  cases e115
                  replace p115 := eq_true p115
                  replace q115 := eq_true q115
                  have p116 : 0 ≤ (x7_1 : Int) := of_decide_eq_true (by first | (with_reducible assumption) | assumption)
                  have q116 : x7_1 < (l0.length : Int) := of_decide_eq_true (by first | (with_reducible assumption) | assumption)
                  obtain ⟨ad116, e116, hx116_0⟩ := Kd.at_string HR0.out x7_1 p116 q116
                  obtain rfl : ad115 = ad116 := (by injection e116)
                  replace p116 := eq_true p116
                  replace q116 := eq_true q116
                  go_wp2_with (first | (go_at_call 26; (with_reducible refine (slices_isNaN_string.calls (rdOf ByteArray.empty l0 x7_1) true _ A13.out).mono ?_); rintro e w' ⟨rfl, ⟨nd, rfl⟩⟩) | (go_at_call 26; (with_reducible refine (slices_isNaN_string.calls a1 t118 _ A15.out).mono ?_); rintro e w' ⟨rfl, ⟨nd, rfl⟩⟩))
                  go_ret2
                  exact ⟨by first | rfl | (simp; done) | (simp [*]; done), by repeat (first | exact Drawn0.refl _ | apply Drawn0.step)⟩
                · replace c14 := Bool.eq_false_iff.mpr c14
                  subst c14
                  have H1 : (some (x7_1, false)) = some (r1, r2) := by rw [if_neg (show ¬ (false = true) by decide)] at H; exact H
                  clear H
                  have H := H1
                  clear H1
                  simp only [Option.some.injEq, Prod.mk.injEq] at H
                  obtain ⟨rfl, rfl⟩ := H
                  have p115 : 0 ≤ (x7_1 : Int) := of_decide_eq_true (by first | (with_reducible assumption) | assumption)
                  have q115 : x7_1 < (l0.length : Int) := of_decide_eq_true (by first | (with_reducible assumption) | assumption)
                  obtain ⟨ad115, e115, hx115_0⟩ := Kd.at_string HR0.out x7_1 p115 q115
                  cases e115
                  replace p115 := eq_true p115
                  replace q115 := eq_true q115
                  have p116 : 0 ≤ (x7_1 : Int) := of_decide_eq_true (by first | (with_reducible assumption) | assumption)
                  have q116 : x7_1 < (l0.length : Int) := of_decide_eq_true (by first | (with_reducible assumption) | assumption)
                  obtain ⟨ad116, e116, hx116_0⟩ := Kd.at_string HR0.out x7_1 p116 q116
                  obtain rfl : ad115 = ad116 := (by injection e116)
                  replace p116 := eq_true p116
                  replace q116 := eq_true q116
                  go_wp2_with (first | (go_at_call 26; (with_reducible refine (slices_isNaN_string.calls (rdOf ByteArray.empty l0 x7_1) false _ A13.out).mono ?_); rintro e w' ⟨rfl, ⟨nd, rfl⟩⟩))
                  go_ret2
                  exact ⟨by first | rfl | (simp; done) | (simp [*]; done), by repeat (first | exact Drawn0.refl _ | apply Drawn0.step)⟩
            · rw [if_neg c11] at H
              exact absurd H (by simp)
          · rw [if_neg c10] at H
            exact absurd H (by simp)
        · rw [if_neg c9] at H
          have c9b0 : decide (x7_1 < (l0.length : Int)) = false := decide_eq_false c9
          clear c9
          simp only [Option.some.injEq, Prod.mk.injEq] at H
          obtain ⟨rfl, rfl⟩ := H
          go_wp2
          go_ret2
          exact ⟨by first | rfl | (simp; done) | (simp [*]; done), by repeat (first | exact Drawn0.refl _ | apply Drawn0.step)⟩

-- this session's own plain form
def slices_BinarySearch_string_string.f (l0 : List ByteArray) (a1 : ByteArray) : Option (Int × Bool) := if M.rises l0 ∧ l0.length ≤ 4611686018427387903 then some ((M.cnt l0 a1 : Int), decide (a1 ∈ l0)) else none
theorem slices_BinarySearch_string_string.less (a b : ByteArray) : cmp_Less_string.f a b = some (Op.bytesLess a.toList b.toList) := by
  unfold cmp_Less_string.f cmp_isNaN_string.f
  simp
theorem slices_BinarySearch_string_string.loop {l : List ByteArray} (hl : M.rises l) (s : ByteArray) (hz : l.length ≤ 4611686018427387903) (d : Nat) : ∀ (i j : Nat), j - i < d → i ≤ M.cnt l s → M.cnt l s ≤ j → j ≤ l.length →
    slices_BinarySearch_string_string_p.l0 d l s (l.length : Int) (i : Int) (j : Int) = some ((M.cnt l s : Int), decide (s ∈ l)) := by
  obtain ⟨h1, h2⟩ := M.cnt_split hl s
  induction d with
  | zero => intro i j hd; omega
  | succ d ih =>
    intro i j hd hi hj hjl
    rw [slices_BinarySearch_string_string_p.l0]
    by_cases hij : i < j
    · have e1 : wrap64 ((i : Int) + j) = ((i + j : Nat) : Int) := by rw [M.wrap64_id (by omega) (by omega)]; omega
      have e2 : IntKind.u64.wrap ((i + j : Nat) : Int) = ((i + j : Nat) : Int) := by
        show ((i + j : Nat) : Int) % 18446744073709551616 = _
        rw [Int.emod_eq_of_lt (by omega) (by omega)]
      have e3 : wrap64 (((i + j : Nat) : Int) / 2) = (((i + j) / 2 : Nat) : Int) := by rw [M.wrap64_id (by omega) (by omega)]; omega
      rw [if_pos (by omega), e1, e2, e3]
      generalize hm : (i + j) / 2 = m
      have hm1 : i ≤ m := by omega
      have hm2 : m < j := by omega
      have hlt : m < l.length := by omega
      have hrd : rdOf ByteArray.empty l (m : Int) = l[m] := by simp [rdOf, List.getD, hlt]
      rw [if_pos (by omega), if_pos (by omega), hrd, slices_BinarySearch_string_string.less, Option.bind_some]
      by_cases hc : M.lt l[m] s
      · have hc' : Op.bytesLess l[m].toList s.toList = true := hc
        rw [if_pos hc', M.wrap64_id (i := (m : Int) + 1) (by omega) (by omega), show (m : Int) + 1 = ((m + 1 : Nat) : Int) from by omega]
        refine ih (m + 1) j (by omega) ?_ hj hjl
        rcases Nat.lt_or_ge m (M.cnt l s) with g | g
        · exact g
        · exact absurd hc (h2 m hlt g)
      · have hc' : ¬ Op.bytesLess l[m].toList s.toList = true := hc
        rw [if_neg hc']
        refine ih i m (by omega) hi ?_ (by omega)
        rcases Nat.lt_or_ge m (M.cnt l s) with g | g
        · exact absurd (h1 m hlt g) hc
        · exact g
    · obtain rfl : i = M.cnt l s := by omega
      rw [if_neg (by omega)]
      have hma := M.mem_at hl s
      by_cases hlt : M.cnt l s < l.length
      · have hrd : rdOf ByteArray.empty l (M.cnt l s : Int) = l[M.cnt l s] := by simp [rdOf, List.getD, hlt]
        rw [if_pos (by omega), if_pos (by omega), if_pos (by omega), hrd, M.toList_bs, M.toList_bs]
        by_cases hs : l[M.cnt l s] = s
        · rw [if_pos (by rw [hs]), decide_eq_true (hma.2 ⟨hlt, hs⟩)]
        · rw [if_neg (fun z => hs (M.bs_inj z))]
          unfold slices_isNaN_string.f
          rw [Option.bind_some, if_neg (by simp), decide_eq_false (fun z => hs (hma.1 z).2)]
      · rw [if_neg (by omega), decide_eq_false (fun z => hlt (hma.1 z).1)]
theorem slices_BinarySearch_string_string.ev (l : List ByteArray) (s : ByteArray) (r : Int × Bool) (h : slices_BinarySearch_string_string.f l s = some r) : ∃ k, slices_BinarySearch_string_string_p.f k l s = some r := by
  unfold slices_BinarySearch_string_string.f at h
  split at h
  case isFalse => cases h
  case isTrue hh =>
    refine ⟨l.length + 1, ?_⟩
    rw [← h]
    exact slices_BinarySearch_string_string.loop hh.1 s hh.2 (l.length + 1) 0 l.length (by omega) (by omega) (M.cnt_le l s) (Nat.le_refl _)
theorem slices_BinarySearch_string_string.calls (A0 : Option Addr) (c0 : Nat) (l0 : List ByteArray) (a1 : ByteArray) (r1 : Int) (r2 : Bool) (w : World) (hr0 : Kd.C Kd.string w A0 l0.length l0) (hc0 : l0.length ≤ c0) (h : slices_BinarySearch_string_string.f l0 a1 = some (r1, r2)) :
    Calls Try.prog 22 #[.slice A0 l0.length c0, .string a1] w fun e w' => e = .returned (.tuple #[.int .i64 r1, .bool r2]) ∧ Drawn0 w w' := by
  obtain ⟨k, hk⟩ := slices_BinarySearch_string_string.ev _ _ _ h
  exact slices_BinarySearch_string_string_p.calls (k := k) (w := w) (h := hk) (hr0 := hr0) (hc0 := hc0)

/-! ### fan_Fan_Find: function 15 -/
def fan_Fan_Find.f (xs : List Int) (l : List ByteArray) (s : ByteArray) : Option (Int × Bool) :=
  if xs.length = 16 ∧ s.size ≤ 9223372036854775807 then
    (if s.size = 32 then (fan_part.f s).bind fun p => (fan_Fan_Span.f xs p).bind fun ab =>
      (if 0 ≤ ab.1 ∧ ab.2 ≤ (l.length : Int) ∧ ab.1 ≤ ab.2 then (slices_BinarySearch_string_string.f ((l.take ab.2.toNat).drop ab.1.toNat) s).bind fun r => (if r.2 = true then some (wrap64 (ab.1 + r.1), true) else some (0, false)) else some (0, false))
    else some (0, false)) else none
set_option maxHeartbeats 8000000 in
set_option maxRecDepth 100000 in
theorem fan_Fan_Find.short (xs : List Int) (A : Option Addr) (n c : Nat) (s : ByteArray) (w : World) (hs : s.size ≠ 32) :
    Calls Try.prog 15 #[.agg (nums .i64 xs).toArray, .slice A n c, .string s] w fun e w' => e = .returned (.tuple #[.int .i64 0, .bool false]) ∧ Below w.heap.size w w' := by
  have HB := Aside0.mk (Below.refl w.heap.size w)
  have ht : ((s.size : Int) == 32) = false := beq_eq_false_iff_ne.2 (by omega)
  have ht2 : ((s.size : Int) != 32) = true := bne_iff_ne.2 (by omega)
  go_enter Try.func15, Try.ntmps15
  go_wp2
  go_ret2
  exact ⟨rfl, M.up HB⟩
set_option maxHeartbeats 16000000 in
set_option maxRecDepth 100000 in
theorem fan_Fan_Find.bad (x0 x1 x2 x3 x4 x5 x6 x7 x8 x9 x10 x11 x12 x13 x14 x15 : Int) (A0 : Option Addr) (n c : Nat) (s : ByteArray) (p a b : Int) (w : World) (hs : s.size = 32) (hp : fan_part.f s = some p) (hab : fan_Fan_Span.f [x0, x1, x2, x3, x4, x5, x6, x7, x8, x9, x10, x11, x12, x13, x14, x15] p = some (a, b)) (d1 d2 d3 : Bool) (h1 : decide (a < 0) = d1) (h2 : decide (b > (n : Int)) = d2) (h3 : decide (a > b) = d3) (hd : d1 = true ∨ d1 = false ∧ (d2 = true ∨ d2 = false ∧ d3 = true)) :
    Calls Try.prog 15 #[.agg #[.int .i64 x0, .int .i64 x1, .int .i64 x2, .int .i64 x3, .int .i64 x4, .int .i64 x5, .int .i64 x6, .int .i64 x7, .int .i64 x8, .int .i64 x9, .int .i64 x10, .int .i64 x11, .int .i64 x12, .int .i64 x13, .int .i64 x14, .int .i64 x15], .slice A0 n c, .string s] w fun e w' => e = .returned (.tuple #[.int .i64 0, .bool false]) ∧ Below w.heap.size w w' := by
  have HB := Aside0.mk (Below.refl w.heap.size w)
  have ht : ((s.size : Int) == 32) = true := beq_iff_eq.2 (by omega)
  have ht2 : ((s.size : Int) != 32) = false := bne_eq_false_iff_eq.2 (by omega)
  have HP := Aside0.mk hp
  have HAB := Aside0.mk hab
  have a26 := Try.isAgg26
  have z26 := Try.sizeOf26
  clear hp hab hs
  rcases hd with rfl | ⟨rfl, rfl | ⟨rfl, rfl⟩⟩
  all_goals
    go_enter Try.func15, Try.ntmps15
    go_wp2_with (first | ((with_reducible refine gate_dst (N := 3) rfl ?_); refine box_event ?hg (N := 3) ?hd (cs := #[.int .i64 x0, .int .i64 x1, .int .i64 x2, .int .i64 x3, .int .i64 x4, .int .i64 x5, .int .i64 x6, .int .i64 x7, .int .i64 x8, .int .i64 x9, .int .i64 x10, .int .i64 x11, .int .i64 x12, .int .i64 x13, .int .i64 x14, .int .i64 x15]) (t := 26) ?hr ?_; (case hd => rfl); (case hg => rfl); (case hr => first | (go_simp; done) | (go_simp; rfl)); intro gb hg w2 hbox hb; subst hg; have hc0 : w2.cell? ⟨w.heap.size, 0, none⟩ = some (.int .i64 x0) := by simp [World.cell?, hbox]; have hc1 : w2.cell? ⟨w.heap.size, 1, none⟩ = some (.int .i64 x1) := by simp [World.cell?, hbox]; have hc2 : w2.cell? ⟨w.heap.size, 2, none⟩ = some (.int .i64 x2) := by simp [World.cell?, hbox]; have hc3 : w2.cell? ⟨w.heap.size, 3, none⟩ = some (.int .i64 x3) := by simp [World.cell?, hbox]; have hc4 : w2.cell? ⟨w.heap.size, 4, none⟩ = some (.int .i64 x4) := by simp [World.cell?, hbox]; have hc5 : w2.cell? ⟨w.heap.size, 5, none⟩ = some (.int .i64 x5) := by simp [World.cell?, hbox]; have hc6 : w2.cell? ⟨w.heap.size, 6, none⟩ = some (.int .i64 x6) := by simp [World.cell?, hbox]; have hc7 : w2.cell? ⟨w.heap.size, 7, none⟩ = some (.int .i64 x7) := by simp [World.cell?, hbox]; have hc8 : w2.cell? ⟨w.heap.size, 8, none⟩ = some (.int .i64 x8) := by simp [World.cell?, hbox]; have hc9 : w2.cell? ⟨w.heap.size, 9, none⟩ = some (.int .i64 x9) := by simp [World.cell?, hbox]; have hc10 : w2.cell? ⟨w.heap.size, 10, none⟩ = some (.int .i64 x10) := by simp [World.cell?, hbox]; have hc11 : w2.cell? ⟨w.heap.size, 11, none⟩ = some (.int .i64 x11) := by simp [World.cell?, hbox]; have hc12 : w2.cell? ⟨w.heap.size, 12, none⟩ = some (.int .i64 x12) := by simp [World.cell?, hbox]; have hc13 : w2.cell? ⟨w.heap.size, 13, none⟩ = some (.int .i64 x13) := by simp [World.cell?, hbox]; have hc14 : w2.cell? ⟨w.heap.size, 14, none⟩ = some (.int .i64 x14) := by simp [World.cell?, hbox]; have hc15 : w2.cell? ⟨w.heap.size, 15, none⟩ = some (.int .i64 x15) := by simp [World.cell?, hbox]; have n1_ := Aside0.mk (below_step HB.out hb); clear HB; have HB := n1_; clear n1_ hb hbox))
    go_region_with (first | (go_at_call 19; refine (fan_part.calls s p _ HP.out).mono ?_; rintro e w' ⟨rfl, ⟨nd, rfl⟩⟩) | (go_at_call 13; refine (fan_Fan_Span.calls [x0, x1, x2, x3, x4, x5, x6, x7, x8, x9, x10, x11, x12, x13, x14, x15] p a b _ HAB.out).mono ?_; rintro e w3 ⟨rfl, hb3⟩; have HB3 := M.upS HB hb3; clear hb3))
    all_goals
      go_wp2
      go_ret2
      exact ⟨rfl, by repeat (first | (with_reducible first | exact HB3.out | apply below_alloc | apply pw_below_drewN | apply below_drew1) | exact HB3.out)⟩
set_option maxHeartbeats 16000000 in
set_option maxRecDepth 100000 in
theorem fan_Fan_Find.met (x0 x1 x2 x3 x4 x5 x6 x7 x8 x9 x10 x11 x12 x13 x14 x15 : Int) (A0 : Option Addr) (c : Nat) (l : List ByteArray) (s : ByteArray) (p a b r1 : Int) (met : Bool) (w : World) (hr : Kd.C Kd.string w A0 l.length l) (hc : l.length ≤ c) (hs : s.size = 32) (hp : fan_part.f s = some p) (hab : fan_Fan_Span.f [x0, x1, x2, x3, x4, x5, x6, x7, x8, x9, x10, x11, x12, x13, x14, x15] p = some (a, b)) (ha : 0 ≤ a) (hb : b ≤ (l.length : Int)) (hle : a ≤ b) (hbs : slices_BinarySearch_string_string.f ((l.take b.toNat).drop a.toNat) s = some (r1, met)) :
    Calls Try.prog 15 #[.agg #[.int .i64 x0, .int .i64 x1, .int .i64 x2, .int .i64 x3, .int .i64 x4, .int .i64 x5, .int .i64 x6, .int .i64 x7, .int .i64 x8, .int .i64 x9, .int .i64 x10, .int .i64 x11, .int .i64 x12, .int .i64 x13, .int .i64 x14, .int .i64 x15], .slice A0 l.length c, .string s] w fun e w' => e = .returned (.tuple #[.int .i64 (if met = true then wrap64 (a + r1) else 0), .bool met]) ∧ Below w.heap.size w w' := by
  have HB := Aside0.mk (Below.refl w.heap.size w)
  have ht : ((s.size : Int) == 32) = true := beq_iff_eq.2 (by omega)
  have ht2 : ((s.size : Int) != 32) = false := bne_eq_false_iff_eq.2 (by omega)
  have d1 : decide (a < 0) = false := decide_eq_false (by omega)
  have d2 : decide (b > (l.length : Int)) = false := decide_eq_false (by omega)
  have d3 : decide (a > b) = false := decide_eq_false (by omega)
  have q1 : 0 ≤ a := ha
  have q2 : a ≤ b := hle
  have q3 : b ≤ (l.length : Int) := hb
  have info9 : (Try.prog.info? 9).map (fun i => (i.zero, i.size, i.bytes)) = some (some (Value.string ⟨#[]⟩), 1, 16) := by kernel_rfl
  obtain ⟨i0, hi0, _, hsz, _⟩ := info_parts info9
  obtain ⟨A1, hcut, hA, hC⟩ := print_mid_of (P := Try.prog) Value.string (⟨#[]⟩ : ByteArray) 22 9 .i64 .i64 Try.underlying22 hi0 hsz A0 c l a b ha hle hb hc
  have HSU := Aside0.mk (Kd.C_of_reads (h1 := fun _ => rfl) (hA _ (Kd.reads_of_C hr)))
  have HC := Aside0.mk hC
  have HP := Aside0.mk hp
  have HAB := Aside0.mk hab
  have HBS := Aside0.mk hbs
  clear hA hC hp hab hbs hs hr hi0 hsz info9
  generalize (l.take b.toNat).drop a.toNat = sub at hcut HSU HC HBS
  have a26 := Try.isAgg26
  have z26 := Try.sizeOf26
  cases met with
  | true =>
    rw [if_pos rfl]
    go_enter Try.func15, Try.ntmps15
    go_wp2_with (first | ((with_reducible refine gate_dst (N := 3) rfl ?_); refine box_event ?hg (N := 3) ?hd (cs := #[.int .i64 x0, .int .i64 x1, .int .i64 x2, .int .i64 x3, .int .i64 x4, .int .i64 x5, .int .i64 x6, .int .i64 x7, .int .i64 x8, .int .i64 x9, .int .i64 x10, .int .i64 x11, .int .i64 x12, .int .i64 x13, .int .i64 x14, .int .i64 x15]) (t := 26) ?hr ?_; (case hd => rfl); (case hg => rfl); (case hr => first | (go_simp; done) | (go_simp; rfl)); intro gb hg w2 hbox hb; subst hg; have hc0 : w2.cell? ⟨w.heap.size, 0, none⟩ = some (.int .i64 x0) := by simp [World.cell?, hbox]; have hc1 : w2.cell? ⟨w.heap.size, 1, none⟩ = some (.int .i64 x1) := by simp [World.cell?, hbox]; have hc2 : w2.cell? ⟨w.heap.size, 2, none⟩ = some (.int .i64 x2) := by simp [World.cell?, hbox]; have hc3 : w2.cell? ⟨w.heap.size, 3, none⟩ = some (.int .i64 x3) := by simp [World.cell?, hbox]; have hc4 : w2.cell? ⟨w.heap.size, 4, none⟩ = some (.int .i64 x4) := by simp [World.cell?, hbox]; have hc5 : w2.cell? ⟨w.heap.size, 5, none⟩ = some (.int .i64 x5) := by simp [World.cell?, hbox]; have hc6 : w2.cell? ⟨w.heap.size, 6, none⟩ = some (.int .i64 x6) := by simp [World.cell?, hbox]; have hc7 : w2.cell? ⟨w.heap.size, 7, none⟩ = some (.int .i64 x7) := by simp [World.cell?, hbox]; have hc8 : w2.cell? ⟨w.heap.size, 8, none⟩ = some (.int .i64 x8) := by simp [World.cell?, hbox]; have hc9 : w2.cell? ⟨w.heap.size, 9, none⟩ = some (.int .i64 x9) := by simp [World.cell?, hbox]; have hc10 : w2.cell? ⟨w.heap.size, 10, none⟩ = some (.int .i64 x10) := by simp [World.cell?, hbox]; have hc11 : w2.cell? ⟨w.heap.size, 11, none⟩ = some (.int .i64 x11) := by simp [World.cell?, hbox]; have hc12 : w2.cell? ⟨w.heap.size, 12, none⟩ = some (.int .i64 x12) := by simp [World.cell?, hbox]; have hc13 : w2.cell? ⟨w.heap.size, 13, none⟩ = some (.int .i64 x13) := by simp [World.cell?, hbox]; have hc14 : w2.cell? ⟨w.heap.size, 14, none⟩ = some (.int .i64 x14) := by simp [World.cell?, hbox]; have hc15 : w2.cell? ⟨w.heap.size, 15, none⟩ = some (.int .i64 x15) := by simp [World.cell?, hbox]; have n1_ := Aside0.mk (below_step HB.out hb); clear HB; have HB := n1_; clear n1_ hb hbox))
    go_region_with (first | (go_at_call 19; refine (fan_part.calls s p _ HP.out).mono ?_; rintro e w' ⟨rfl, ⟨nd, rfl⟩⟩) | (go_at_call 13; refine (fan_Fan_Span.calls [x0, x1, x2, x3, x4, x5, x6, x7, x8, x9, x10, x11, x12, x13, x14, x15] p a b _ HAB.out).mono ?_; rintro e w3 ⟨rfl, hb3⟩; have HB3 := M.upS HB hb3; clear hb3))
    all_goals
      go_wp2_with (first | (go_at_call 22; refine (slices_BinarySearch_string_string.calls A1 _ sub s r1 _ _ (Kd.C_below HSU.out (by repeat (first | (with_reducible first | exact HB3.out | apply below_alloc | apply pw_below_drewN | apply below_drew1) | exact HB3.out))) HC.out HBS.out).mono ?_; rintro e w' ⟨rfl, ⟨nd, rfl⟩⟩))
      go_ret2
      exact ⟨rfl, by repeat (first | (with_reducible first | exact HB3.out | apply below_alloc | apply pw_below_drewN | apply below_drew1) | exact HB3.out)⟩
  | false =>
    rw [if_neg (by decide)]
    go_enter Try.func15, Try.ntmps15
    go_wp2_with (first | ((with_reducible refine gate_dst (N := 3) rfl ?_); refine box_event ?hg (N := 3) ?hd (cs := #[.int .i64 x0, .int .i64 x1, .int .i64 x2, .int .i64 x3, .int .i64 x4, .int .i64 x5, .int .i64 x6, .int .i64 x7, .int .i64 x8, .int .i64 x9, .int .i64 x10, .int .i64 x11, .int .i64 x12, .int .i64 x13, .int .i64 x14, .int .i64 x15]) (t := 26) ?hr ?_; (case hd => rfl); (case hg => rfl); (case hr => first | (go_simp; done) | (go_simp; rfl)); intro gb hg w2 hbox hb; subst hg; have hc0 : w2.cell? ⟨w.heap.size, 0, none⟩ = some (.int .i64 x0) := by simp [World.cell?, hbox]; have hc1 : w2.cell? ⟨w.heap.size, 1, none⟩ = some (.int .i64 x1) := by simp [World.cell?, hbox]; have hc2 : w2.cell? ⟨w.heap.size, 2, none⟩ = some (.int .i64 x2) := by simp [World.cell?, hbox]; have hc3 : w2.cell? ⟨w.heap.size, 3, none⟩ = some (.int .i64 x3) := by simp [World.cell?, hbox]; have hc4 : w2.cell? ⟨w.heap.size, 4, none⟩ = some (.int .i64 x4) := by simp [World.cell?, hbox]; have hc5 : w2.cell? ⟨w.heap.size, 5, none⟩ = some (.int .i64 x5) := by simp [World.cell?, hbox]; have hc6 : w2.cell? ⟨w.heap.size, 6, none⟩ = some (.int .i64 x6) := by simp [World.cell?, hbox]; have hc7 : w2.cell? ⟨w.heap.size, 7, none⟩ = some (.int .i64 x7) := by simp [World.cell?, hbox]; have hc8 : w2.cell? ⟨w.heap.size, 8, none⟩ = some (.int .i64 x8) := by simp [World.cell?, hbox]; have hc9 : w2.cell? ⟨w.heap.size, 9, none⟩ = some (.int .i64 x9) := by simp [World.cell?, hbox]; have hc10 : w2.cell? ⟨w.heap.size, 10, none⟩ = some (.int .i64 x10) := by simp [World.cell?, hbox]; have hc11 : w2.cell? ⟨w.heap.size, 11, none⟩ = some (.int .i64 x11) := by simp [World.cell?, hbox]; have hc12 : w2.cell? ⟨w.heap.size, 12, none⟩ = some (.int .i64 x12) := by simp [World.cell?, hbox]; have hc13 : w2.cell? ⟨w.heap.size, 13, none⟩ = some (.int .i64 x13) := by simp [World.cell?, hbox]; have hc14 : w2.cell? ⟨w.heap.size, 14, none⟩ = some (.int .i64 x14) := by simp [World.cell?, hbox]; have hc15 : w2.cell? ⟨w.heap.size, 15, none⟩ = some (.int .i64 x15) := by simp [World.cell?, hbox]; have n1_ := Aside0.mk (below_step HB.out hb); clear HB; have HB := n1_; clear n1_ hb hbox))
    go_region_with (first | (go_at_call 19; refine (fan_part.calls s p _ HP.out).mono ?_; rintro e w' ⟨rfl, ⟨nd, rfl⟩⟩) | (go_at_call 13; refine (fan_Fan_Span.calls [x0, x1, x2, x3, x4, x5, x6, x7, x8, x9, x10, x11, x12, x13, x14, x15] p a b _ HAB.out).mono ?_; rintro e w3 ⟨rfl, hb3⟩; have HB3 := M.upS HB hb3; clear hb3))
    all_goals
      go_wp2_with (first | (go_at_call 22; refine (slices_BinarySearch_string_string.calls A1 _ sub s r1 _ _ (Kd.C_below HSU.out (by repeat (first | (with_reducible first | exact HB3.out | apply below_alloc | apply pw_below_drewN | apply below_drew1) | exact HB3.out))) HC.out HBS.out).mono ?_; rintro e w' ⟨rfl, ⟨nd, rfl⟩⟩))
      go_ret2
      exact ⟨rfl, by repeat (first | (with_reducible first | exact HB3.out | apply below_alloc | apply pw_below_drewN | apply below_drew1) | exact HB3.out)⟩
theorem fan_Fan_Find.sixteen (xs : List Int) (h : xs.length = 16) : ∃ x0 x1 x2 x3 x4 x5 x6 x7 x8 x9 x10 x11 x12 x13 x14 x15, xs = [x0, x1, x2, x3, x4, x5, x6, x7, x8, x9, x10, x11, x12, x13, x14, x15] := by
  have e : ∀ (m : Nat) (l : List Int), l.length = m + 1 → ∃ x t, l = x :: t ∧ t.length = m := by
    intro m l hl
    cases l with
    | nil => cases hl
    | cons x t => exact ⟨x, t, rfl, by simpa using hl⟩
  obtain ⟨x0, t0, rfl, h0⟩ := e 15 xs h
  obtain ⟨x1, t1, rfl, h1⟩ := e 14 t0 h0
  obtain ⟨x2, t2, rfl, h2⟩ := e 13 t1 h1
  obtain ⟨x3, t3, rfl, h3⟩ := e 12 t2 h2
  obtain ⟨x4, t4, rfl, h4⟩ := e 11 t3 h3
  obtain ⟨x5, t5, rfl, h5⟩ := e 10 t4 h4
  obtain ⟨x6, t6, rfl, h6⟩ := e 9 t5 h5
  obtain ⟨x7, t7, rfl, h7⟩ := e 8 t6 h6
  obtain ⟨x8, t8, rfl, h8⟩ := e 7 t7 h7
  obtain ⟨x9, t9, rfl, h9⟩ := e 6 t8 h8
  obtain ⟨x10, t10, rfl, h10⟩ := e 5 t9 h9
  obtain ⟨x11, t11, rfl, h11⟩ := e 4 t10 h10
  obtain ⟨x12, t12, rfl, h12⟩ := e 3 t11 h11
  obtain ⟨x13, t13, rfl, h13⟩ := e 2 t12 h12
  obtain ⟨x14, t14, rfl, h14⟩ := e 1 t13 h13
  obtain ⟨x15, t15, rfl, h15⟩ := e 0 t14 h14
  obtain rfl : t15 = [] := List.eq_nil_of_length_eq_zero h15
  exact ⟨x0, x1, x2, x3, x4, x5, x6, x7, x8, x9, x10, x11, x12, x13, x14, x15, rfl⟩
theorem fan_Fan_Find.calls (xs : List Int) (A0 : Option Addr) (c0 : Nat) (l0 : List ByteArray) (a2 : ByteArray) (r1 : Int) (r2 : Bool) (w : World) (hr0 : Kd.C Kd.string w A0 l0.length l0) (hc0 : l0.length ≤ c0) (h : fan_Fan_Find.f xs l0 a2 = some (r1, r2)) :
    Calls Try.prog 15 #[.agg (nums .i64 xs).toArray, .slice A0 l0.length c0, .string a2] w fun e w' => e = .returned (.tuple #[.int .i64 r1, .bool r2]) ∧ Below w.heap.size w w' := by
  unfold fan_Fan_Find.f at h
  split at h
  case isFalse => cases h
  case isTrue hh =>
    obtain ⟨x0, x1, x2, x3, x4, x5, x6, x7, x8, x9, x10, x11, x12, x13, x14, x15, rfl⟩ := fan_Fan_Find.sixteen xs hh.1
    by_cases hs : a2.size = 32
    · rw [if_pos hs] at h
      obtain ⟨p, hp, h⟩ := Option.bind_eq_some_iff.mp h
      obtain ⟨⟨a, b⟩, hab, h⟩ := Option.bind_eq_some_iff.mp h
      by_cases hg : 0 ≤ a ∧ b ≤ (l0.length : Int) ∧ a ≤ b
      · rw [if_pos hg] at h
        obtain ⟨⟨q1, q2⟩, hq, h⟩ := Option.bind_eq_some_iff.mp h
        have hm := fan_Fan_Find.met x0 x1 x2 x3 x4 x5 x6 x7 x8 x9 x10 x11 x12 x13 x14 x15 A0 c0 l0 a2 p a b q1 q2 w hr0 hc0 hs hp hab hg.1 hg.2.1 hg.2.2 hq
        cases q2 with
        | true =>
          simp only [if_true, Option.some.injEq, Prod.mk.injEq] at h hm
          obtain ⟨rfl, rfl⟩ := h
          exact hm
        | false =>
          rw [if_neg (by simp)] at h hm
          simp only [Option.some.injEq, Prod.mk.injEq] at h
          obtain ⟨rfl, rfl⟩ := h
          exact hm
      · rw [if_neg hg] at h
        simp only [Option.some.injEq, Prod.mk.injEq] at h
        obtain ⟨rfl, rfl⟩ := h
        refine fan_Fan_Find.bad x0 x1 x2 x3 x4 x5 x6 x7 x8 x9 x10 x11 x12 x13 x14 x15 A0 l0.length c0 a2 p a b w hs hp hab (decide (a < 0)) (decide (b > (l0.length : Int))) (decide (a > b)) rfl rfl rfl ?_
        by_cases g1 : a < 0
        · exact .inl (decide_eq_true g1)
        · by_cases g2 : b > (l0.length : Int)
          · exact .inr ⟨decide_eq_false g1, .inl (decide_eq_true g2)⟩
          · exact .inr ⟨decide_eq_false g1, .inr ⟨decide_eq_false g2, decide_eq_true (by omega)⟩⟩
    · rw [if_neg hs] at h
      simp only [Option.some.injEq, Prod.mk.injEq] at h
      obtain ⟨rfl, rfl⟩ := h
      exact fan_Fan_Find.short _ A0 l0.length c0 a2 w hs
theorem fan_Fan_Find.cut_ {l : List ByteArray} (h : M.rises l) (a b : Nat) : M.rises ((l.take b).drop a) := List.Pairwise.sublist ((List.drop_sublist _ _).trans (List.take_sublist _ _)) h
/-- Whatever a fan says. -/
theorem fan_Fan_Find.any_ (xs : List Int) (l : List ByteArray) (s : ByteArray) (hx : xs.length = 16) (hr : M.rises l) (hl : l.length ≤ 1000000) (hs : s.size ≤ 1000000) :
    ∃ at_ ok, fan_Fan_Find.f xs l s = some (at_, ok) ∧ ((ok = false ∧ at_ = 0) ∨ (ok = true ∧ at_ = M.fst 0 l s ∧ s ∈ l)) := by
  unfold fan_Fan_Find.f
  rw [if_pos ⟨hx, by omega⟩]
  by_cases h32 : s.size = 32
  · rw [if_pos h32]
    have hpb := M.part_bt s (by omega)
    have hp : fan_part.f s = some (M.part s : Int) := by unfold fan_part.f; rw [if_pos (by omega), hpb.2, hpb.1]
    rw [hp, Option.bind_some]
    unfold fan_Fan_Span.f
    rw [if_pos hx, Option.bind_some]
    generalize (if 0 ≤ (M.part s : Int) ∧ (M.part s : Int) < 16 then ((if 0 < (M.part s : Int) then xs.getD ((M.part s : Int) - 1).toNat 0 else 0), xs.getD (M.part s : Int).toNat 0) else (0, 0)) = ab
    obtain ⟨a, b⟩ := ab
    simp only
    by_cases hg : 0 ≤ a ∧ b ≤ (l.length : Int) ∧ a ≤ b
    · rw [if_pos hg]
      have hc := fan_Fan_Find.cut_ hr a.toNat b.toNat
      unfold slices_BinarySearch_string_string.f
      rw [if_pos ⟨hc, by rw [List.length_drop, List.length_take]; omega⟩, Option.bind_some]
      by_cases hm : s ∈ (l.take b.toNat).drop a.toNat
      · rw [if_pos (by simpa using hm)]
        obtain ⟨hi, he⟩ := (M.mem_at hc s).1 hm
        have hi' := hi
        rw [List.length_drop, List.length_take] at hi'
        have hj : a.toNat + M.cnt ((l.take b.toNat).drop a.toNat) s < l.length := by omega
        have hat : l[a.toNat + M.cnt ((l.take b.toNat).drop a.toNat) s] = s := by
          rw [List.getElem_drop, List.getElem_take] at he
          exact he
        refine ⟨_, _, rfl, .inr ⟨rfl, ?_, by rw [← hat]; exact List.getElem_mem _⟩⟩
        rw [M.fst_at l 0 s _ hj (M.rises_ne hr) hat, M.wrap64_id (by omega) (by omega)]
        omega
      · rw [if_neg (by simpa using hm)]
        exact ⟨_, _, rfl, .inl ⟨rfl, rfl⟩⟩
    · rw [if_neg hg]
      exact ⟨_, _, rfl, .inl ⟨rfl, rfl⟩⟩
  · rw [if_neg h32]
    exact ⟨_, _, rfl, .inl ⟨rfl, rfl⟩⟩
/-- In the fan of the sums a sum is found. -/
theorem fan_Fan_Find.there (l : List ByteArray) (s : ByteArray) (hr : M.rises l) (h32 : ∀ x ∈ l, x.size = 32) (hl : l.length ≤ 1000000) (hs : s ∈ l) :
    fan_Fan_Find.f (M.fans l 16) l s = some (M.fst 0 l s, true) := by
  obtain ⟨at_, ok, he, hh⟩ := fan_Fan_Find.any_ (M.fans l 16) l s (M.fans_len _ _) hr hl (by have := h32 s hs; omega)
  rcases hh with ⟨rfl, rfl⟩ | ⟨rfl, rfl, _⟩
  · exfalso
    have hsz := h32 s hs
    obtain ⟨i, hi, hli⟩ := List.getElem_of_mem hs
    have hpl := M.part_lt s
    -- the sums before its part, and up to its end
    have hcnt : M.cnt l s = i := by
      obtain ⟨h1, h2⟩ := M.cnt_split hr s
      rcases Nat.lt_trichotomy (M.cnt l s) i with h | h | h
      · exfalso
        have := h2 (M.cnt l s) (by omega) (Nat.le_refl _)
        have hp := (List.pairwise_iff_getElem.1 hr) (M.cnt l s) i (by omega) hi h
        rw [hli] at hp
        exact this hp
      · exact h
      · exfalso
        have := h1 i hi h
        rw [hli] at this
        exact M.lt_irrefl _ this
    have hlo : M.upto l ((M.part s : Int) - 1) ≤ M.cnt l s := by
      unfold M.upto M.cnt
      rw [← List.countP_eq_length_filter]
      apply List.countP_mono_left
      intro x hx hp
      have hp : (M.part x : Int) ≤ (M.part s : Int) - 1 := of_decide_eq_true hp
      apply decide_eq_true
      rcases M.lt_or x s with h | h | h
      · exact h
      · rw [h] at hp; omega
      · have := M.part_mono (by omega) h; omega
    have hup : M.cnt l s + 1 ≤ M.upto l (M.part s : Int) := by
      have e : M.upto (l.take (i + 1)) (M.part s : Int) = i + 1 := by
        unfold M.upto
        rw [List.countP_eq_length.2, List.length_take]
        · omega
        · intro x hx
          apply decide_eq_true
          obtain ⟨j, hj, rfl⟩ := List.getElem_of_mem hx
          rw [List.length_take] at hj
          rw [List.getElem_take]
          by_cases hji : j = i
          · subst hji; rw [hli]; exact Int.le_refl _
          · have hp := (List.pairwise_iff_getElem.1 hr) j i (by omega) hi (by omega)
            rw [hli] at hp
            have := M.part_mono (by have := h32 _ (List.getElem_mem (show j < l.length by omega)); omega) hp
            omega
      have e2 : M.upto (l.take (i + 1)) (M.part s : Int) ≤ M.upto l (M.part s : Int) := by
        unfold M.upto
        exact List.Sublist.countP_le (List.take_sublist _ _)
      omega
    rw [hcnt] at hlo hup
    have hupl := M.upto_le l (M.part s : Int)
    -- what the code tells
    have hpb := M.part_bt s (by omega)
    have hp : fan_part.f s = some (M.part s : Int) := by unfold fan_part.f; rw [if_pos (by omega), hpb.2, hpb.1]
    have hspan : fan_Fan_Span.f (M.fans l 16) (M.part s : Int) = some ((M.upto l ((M.part s : Int) - 1) : Int), (M.upto l (M.part s : Int) : Int)) := by
      unfold fan_Fan_Span.f
      rw [if_pos (M.fans_len _ _), if_pos ⟨by omega, by omega⟩, Int.toNat_natCast, M.fans_get _ _ _ hpl, if_pos hpl]
      by_cases h0 : 0 < (M.part s : Int)
      · rw [if_pos h0, M.fans_get _ _ _ (by omega), if_pos (by omega), show (((M.part s : Int) - 1).toNat : Int) = (M.part s : Int) - 1 from by omega]
      · rw [if_neg h0, M.upto_neg l (k := (M.part s : Int) - 1) (by omega)]; rfl
    unfold fan_Fan_Find.f at he
    rw [if_pos ⟨M.fans_len _ _, by omega⟩, if_pos hsz, hp, Option.bind_some, hspan, Option.bind_some] at he
    simp only at he
    rw [if_pos ⟨by omega, by omega, by omega⟩] at he
    unfold slices_BinarySearch_string_string.f at he
    rw [Int.toNat_natCast, Int.toNat_natCast, if_pos ⟨fan_Fan_Find.cut_ hr _ _, by rw [List.length_drop, List.length_take]; omega⟩, Option.bind_some] at he
    have hmem : s ∈ (l.take (M.upto l (M.part s : Int))).drop (M.upto l ((M.part s : Int) - 1)) := by
      have hj : i - M.upto l ((M.part s : Int) - 1) < ((l.take (M.upto l (M.part s : Int))).drop (M.upto l ((M.part s : Int) - 1))).length := by
        rw [List.length_drop, List.length_take]; omega
      have := List.getElem_mem hj
      rw [List.getElem_drop, List.getElem_take] at this
      simp only [show M.upto l ((M.part s : Int) - 1) + (i - M.upto l ((M.part s : Int) - 1)) = i from by omega, hli] at this
      exact this
    rw [if_pos (by simpa using hmem)] at he
    simp only [Option.some.injEq, Prod.mk.injEq] at he
    exact absurd he.2 (by decide)
  · exact he
theorem fan_Fan_Find.away (xs : List Int) (l : List ByteArray) (s : ByteArray) (hx : xs.length = 16) (hr : M.rises l) (hl : l.length ≤ 1000000) (hz : s.size ≤ 1000000) (hs : s ∉ l) : fan_Fan_Find.f xs l s = some (0, false) := by
  obtain ⟨at_, ok, he, hh⟩ := fan_Fan_Find.any_ xs l s hx hr hl hz
  rcases hh with ⟨rfl, rfl⟩ | ⟨_, _, h⟩
  · exact he
  · exact absurd h hs

/-! ### pleachref12_At_p: function 16 -/
def pleachref12_At_p.l0 : Nat → List ByteArray → ByteArray → Int → Option (Int)
  | 0, _, _, _ => none
  | k + 1, x0, x1, x5 => if x5 < (x0.length : Int) then (if 0 ≤ x5 then (if (rdOf ByteArray.empty x0 x5).toList = x1.toList then (some x5) else (pleachref12_At_p.l0 k x0 x1 (wrap64 (x5 + 1)))) else (none)) else (some (-1))
def pleachref12_At_p.f (k : Nat) (l0 : List ByteArray) (a1 : ByteArray) : Option (Int) := pleachref12_At_p.l0 k l0 a1 0
theorem pleachref12_At_p.mono_l : ∀ k, (∀ y0 y1 y2, LeO (pleachref12_At_p.l0 k y0 y1 y2) (pleachref12_At_p.l0 (k + 1) y0 y1 y2))
  | 0 => fun _ _ _ r h => by simp [pleachref12_At_p.l0] at h
  | k + 1 => by
    have ih0 := pleachref12_At_p.mono_l k
    · intro y0 y1 y2
      unfold pleachref12_At_p.l0
      repeat' first
      | (with_reducible exact ih0 _ _ _)
      | (with_reducible exact LeO.refl _)
      | (with_reducible exact LeO.none _)
      | (with_reducible refine LeO.ite ?_ ?_)
      | (with_reducible refine LeO.bind ?_ (fun _ => ?_))
      | exact ih0 _ _ _
      | exact LeO.none _
      | refine LeO.ite ?_ ?_
      | refine LeO.bind ?_ (fun _ => ?_)
theorem pleachref12_At_p.mono : ∀ a0 a1 k, LeO (pleachref12_At_p.f k a0 a1) (pleachref12_At_p.f (k + 1) a0 a1) := by
  intro a0 a1 k
  have ih0 := pleachref12_At_p.mono_l k
  unfold pleachref12_At_p.f
  repeat' first
      | (with_reducible exact ih0 _ _ _)
      | (with_reducible exact LeO.refl _)
      | (with_reducible exact LeO.none _)
      | (with_reducible refine LeO.ite ?_ ?_)
      | (with_reducible refine LeO.bind ?_ (fun _ => ?_))
      | exact ih0 _ _ _
      | exact LeO.none _
      | refine LeO.ite ?_ ?_
      | refine LeO.bind ?_ (fun _ => ?_)
set_option maxHeartbeats 8000000 in
set_option maxRecDepth 100000 in
theorem pleachref12_At_p.calls (k : Nat) (A0 : Option Addr) (c0 : Nat) (l0 : List ByteArray) (a1 : ByteArray) (r : Int) (w : World) (hr0 : Kd.C Kd.string w A0 l0.length l0) (hc0 : l0.length ≤ c0) (h : pleachref12_At_p.f k l0 a1 = some r) :
    Calls Try.prog 16 #[.slice A0 l0.length c0, .string a1] w fun e w' => e = .returned (.int .i64 r) ∧ Drawn0 w w' := by
  have HR0 := Aside0.mk hr0
  have HC0 := Aside0.mk hc0
  clear hr0 hc0
  have H : (pleachref12_At_p.l0 k l0 a1 0) = some r := h
  clear h
  have H' := Aside0.mk H
  clear H
  go_enter Try.func16, Try.ntmps16
  go_wp2
  go_loopg [5] k (fun kq v5 w' => ∃ (x5_1 : Int), v5 = .int .i64 x5_1 ∧ Aside0 (pleachref12_At_p.l0 kq l0 a1 x5_1 = some r) ∧ Aside0 (kq ≤ k) ∧ Drawn0 w w')
  case atStart => exact ⟨(0), (by first | rfl | (simp; done) | (simp [*]; done) | (simp [M.isEmpty_bne]; done)), H', ⟨Nat.le_refl _⟩, by repeat (first | exact Drawn0.refl _ | apply Drawn0.step)⟩
  case round =>
    clear H'
    try clear c1
    try clear p2
    obtain ⟨x5_1, rfl, HA, HK1, ⟨m1, rfl⟩⟩ := hrel
    cases gk with
    | zero => exact absurd HA.out (by simp [pleachref12_At_p.l0])
    | succ k1 =>
      have H := HA.out
      clear HA
      simp only [pleachref12_At_p.l0] at H
      by_cases c3 : x5_1 < (l0.length : Int)
      · rw [if_pos c3] at H
        have c3b0 : decide (x5_1 < (l0.length : Int)) = true := decide_eq_true c3
        clear c3
        by_cases c4 : 0 ≤ x5_1
        · rw [if_pos c4] at H
          have c4b0 : decide (0 ≤ x5_1) = true := decide_eq_true c4
          clear c4
          by_cases c5 : (rdOf ByteArray.empty l0 x5_1).toList = a1.toList
          · rw [if_pos c5] at H
            have c5b0 : ((rdOf ByteArray.empty l0 x5_1).toList == a1.toList) = true := beq_iff_eq.mpr c5
            have c5b1 : ((rdOf ByteArray.empty l0 x5_1).toList != a1.toList) = false := bne_eq_false_iff_eq.mpr c5
            clear c5
            obtain rfl := Option.some.inj H
            have p119 : 0 ≤ (x5_1 : Int) := of_decide_eq_true (by first | (with_reducible assumption) | assumption)
            have q119 : x5_1 < (l0.length : Int) := of_decide_eq_true (by first | (with_reducible assumption) | assumption)
            obtain ⟨ad119, e119, hx119_0⟩ := Kd.at_string HR0.out x5_1 p119 q119
            cases e119
            replace p119 := eq_true p119
            replace q119 := eq_true q119
            go_wp2
            go_ret
            exact ⟨by first | rfl | (simp; done) | (simp [*]; done), by repeat (first | exact Drawn0.refl _ | apply Drawn0.step)⟩
          · rw [if_neg c5] at H
            have c5b0 : ((rdOf ByteArray.empty l0 x5_1).toList == a1.toList) = false := beq_eq_false_iff_ne.mpr c5
            have c5b1 : ((rdOf ByteArray.empty l0 x5_1).toList != a1.toList) = true := bne_iff_ne.mpr c5
            have H' := Aside0.mk H
            clear H
            have p119 : 0 ≤ (x5_1 : Int) := of_decide_eq_true (by first | (with_reducible assumption) | assumption)
            have q119 : x5_1 < (l0.length : Int) := of_decide_eq_true (by first | (with_reducible assumption) | assumption)
            obtain ⟨ad119, e119, hx119_0⟩ := Kd.at_string HR0.out x5_1 p119 q119
            cases e119
            replace p119 := eq_true p119
            replace q119 := eq_true q119
            go_wp2
            go_roundg k1
            case measure => have := HK1.out; omega
            case rel => exact ⟨(wrap64 (x5_1 + 1)), (by first | rfl | (simp; done) | (simp [*]; done) | (simp [M.isEmpty_bne]; done)), H', ⟨by have := HK1.out; omega⟩, by repeat (first | exact Drawn0.refl _ | apply Drawn0.step)⟩
        · rw [if_neg c4] at H
          exact absurd H (by simp)
      · rw [if_neg c3] at H
        have c3b0 : decide (x5_1 < (l0.length : Int)) = false := decide_eq_false c3
        clear c3
        obtain rfl := Option.some.inj H
        go_wp2
        go_ret
        exact ⟨by first | rfl | (simp; done) | (simp [*]; done), by repeat (first | exact Drawn0.refl _ | apply Drawn0.step)⟩

-- this session's own plain form
def pleachref12_At.f (l : List ByteArray) (s : ByteArray) : Option Int := if l.length ≤ 4611686018427387903 then some (M.fst 0 l s) else none
theorem pleachref12_At.loop (l : List ByteArray) (s : ByteArray) (hl : l.length ≤ 4611686018427387903) (d : Nat) : ∀ (i : Nat), i + d = l.length →
    pleachref12_At_p.l0 (d + 1) l s (i : Int) = some (M.fst i (l.drop i) s) := by
  induction d with
  | zero =>
    intro i hi
    rw [pleachref12_At_p.l0, if_neg (by omega), List.drop_of_length_le (by omega)]; rfl
  | succ d ih =>
    intro i hi
    have hlt : i < l.length := by omega
    have hrd : rdOf ByteArray.empty l (i : Int) = l[i] := by simp [rdOf, List.getD, hlt]
    have hn := ih (i + 1) (by omega)
    rw [pleachref12_At_p.l0, if_pos (by omega), if_pos (by omega), hrd, List.drop_eq_getElem_cons hlt, M.fst, M.toList_bs, M.toList_bs]
    rw [M.wrap64_id (i := (i : Int) + 1) (by omega) (by omega), show (i : Int) + 1 = ((i + 1 : Nat) : Int) from by omega, hn]
    by_cases he : l[i] = s
    · rw [if_pos (by rw [he]), if_pos he]
    · rw [if_neg (fun z => he (M.bs_inj z)), if_neg he]
theorem pleachref12_At.ev (l : List ByteArray) (s : ByteArray) (r : Int) (h : pleachref12_At.f l s = some r) : ∃ k, pleachref12_At_p.f k l s = some r := by
  unfold pleachref12_At.f at h
  split at h
  case isFalse => cases h
  case isTrue hh =>
    refine ⟨l.length + 1, ?_⟩
    rw [← h]
    exact pleachref12_At.loop l s hh l.length 0 (by omega)
theorem pleachref12_At.calls (A0 : Option Addr) (c0 : Nat) (l0 : List ByteArray) (a1 : ByteArray) (r : Int) (w : World) (hr0 : Kd.C Kd.string w A0 l0.length l0) (hc0 : l0.length ≤ c0) (h : pleachref12_At.f l0 a1 = some r) :
    Calls Try.prog 16 #[.slice A0 l0.length c0, .string a1] w fun e w' => e = .returned (.int .i64 r) ∧ Drawn0 w w' := by
  obtain ⟨k, hk⟩ := pleachref12_At.ev _ _ _ h
  exact pleachref12_At_p.calls (k := k) (w := w) (h := hk) (hr0 := hr0) (hc0 := hc0)

end Go.Proofs.Ytbjcpdeinmlbhaa.EFanAny
