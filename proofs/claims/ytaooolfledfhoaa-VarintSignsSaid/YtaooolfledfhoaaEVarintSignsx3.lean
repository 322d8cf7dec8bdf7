-- Written by this session's own program (wip/tools/ext.py) for this claim; Lean checks it.
import Derived.Test.YtaooolfledfhoaaEVarintSignsx0
import Derived.Test.YtaooolfledfhoaaEVarintSignsx1
import Derived.Test.YtaooolfledfhoaaEVarintSignsx2
namespace Go.Proofs.Ytaooolfledfhoaa.EVarintSigns
open Go.RowKit Go.Proofs.YtaooolfledfhoaaW.PrintWords Go.Proofs.YtaooolfledfhoaaW.PrintLast Go.Proofs.YtaooolfledfhoaaW.PrintMore
attribute [local go_sem] max2_int min2_int max_two min_two max_three min_three max_four min_four   -- for this text's walks alone
set_option linter.unusedVariables false
set_option linter.unusedSimpArgs false

/-! ### pleachref01_Zag_p: function 15 -/
def pleachref01_Zag_p.f (a0 : Int) : Option (Int) := if (Int.tmod a0 2) = 0 then (some (wrap64 (IntKind.u64.wrap (Int.tdiv a0 2)))) else (some (wrap64 ((-1) - (wrap64 (IntKind.u64.wrap (Int.tdiv a0 2))))))
set_option maxHeartbeats 8000000 in
set_option maxRecDepth 100000 in
theorem pleachref01_Zag_p.calls (a0 : Int) (r : Int) (w : World) (h : pleachref01_Zag_p.f a0 = some r) :
    Calls Try.prog 15 #[.int .u64 a0] w fun e w' => e = .returned (.int .i64 r) ∧ Drawn0 w w' := by
  have H : (if (Int.tmod a0 2) = 0 then (some (wrap64 (IntKind.u64.wrap (Int.tdiv a0 2)))) else (some (wrap64 ((-1) - (wrap64 (IntKind.u64.wrap (Int.tdiv a0 2))))))) = some r := h
  clear h
  by_cases c2 : (Int.tmod a0 2) = 0
  · rw [if_pos c2] at H
    have c2b0 : ((Int.tmod a0 2) == 0) = true := beq_iff_eq.mpr c2
    have c2b1 : ((Int.tmod a0 2) != 0) = false := bne_eq_false_iff_eq.mpr c2
    clear c2
    obtain rfl := Option.some.inj H
    go_enter Try.func15, Try.ntmps15
    go_wp2
    go_ret
    exact ⟨by first | rfl | (simp; done) | (simp [*]; done), by repeat (first | exact Drawn0.refl _ | apply Drawn0.step)⟩
  · rw [if_neg c2] at H
    have c2b0 : ((Int.tmod a0 2) == 0) = false := beq_eq_false_iff_ne.mpr c2
    have c2b1 : ((Int.tmod a0 2) != 0) = true := bne_iff_ne.mpr c2
    obtain rfl := Option.some.inj H
    go_enter Try.func15, Try.ntmps15
    go_wp2
    go_ret
    exact ⟨by first | rfl | (simp; done) | (simp [*]; done), by repeat (first | exact Drawn0.refl _ | apply Drawn0.step)⟩

-- this session's own plain form
def pleachref01_Zag.f (a0 : Int) : Option Int := if 0 ≤ a0 ∧ a0 < 18446744073709551616 then some (M.zag a0) else none
theorem pleachref01_Zag.ev (a0 r : Int) (h : pleachref01_Zag.f a0 = some r) : pleachref01_Zag_p.f a0 = some r := by
  unfold pleachref01_Zag.f at h
  split at h
  · rename_i hh
    obtain rfl := Option.some.inj h
    unfold pleachref01_Zag_p.f M.zag
    rw [Int.tmod_eq_emod_of_nonneg hh.1, Int.tdiv_eq_ediv_of_nonneg hh.1]
    simp only [M.u64_wrap, wrap64]
    split
    · congr 1; omega
    · congr 1; omega
  · cases h
theorem pleachref01_Zag.calls (a0 : Int) (r : Int) (w : World) (h : pleachref01_Zag.f a0 = some r) :
    Calls Try.prog 15 #[.int .u64 a0] w fun e w' => e = .returned (.int .i64 r) ∧ Drawn0 w w' := by
  exact pleachref01_Zag_p.calls (w := w) (h := pleachref01_Zag.ev _ _ h)

/-! ### pleachlaw01_VarintSigns: function 4 -/
def pleachlaw01_VarintSigns.j0 : Nat → Int → Int → Int → Bool → Int → Int → Bool → Bool → Option (Bool)
  | 0, _, _, _, _, _, _, _, _ => none
  | k + 1, x0, x7, x8, x9, x10, x11, x12, x54 => if x54 = true then (some false) else ((varint_Int.f x0).bind fun t145 => ((pleachref01_Zig.f x0).bind fun t146 => ((pleachref01_Put.f t146).bind fun t147 => (if t145.toList = t147.toList then ((pleachref01_Zag.f x10).bind fun t148 => (if x7 = t148 then (if x8 = x11 then (if (x9 == x12) = true then ((pleachlaw01_awake.f).bind fun t149 => (some t149)) else (some false)) else (some false)) else (some false))) else (some false)))))
def pleachlaw01_VarintSigns.f (k : Nat) (a0 : Int) (a1 : Int) (a2 : ByteArray) : Option (Bool) := if (a2.size : Int) > 1000 then ((pleachlaw01_awake.f).bind fun t132 => (some t132)) else ((varint_GetInt.f a2).bind fun bt133 => ((pleachref01_Get.f a2).bind fun bt136 => ((varint_Zig.f a0).bind fun t139 => ((pleachref01_Zig.f a0).bind fun t140 => (if t139 = t140 then ((varint_Zag.f a1).bind fun t141 => ((pleachref01_Zag.f a1).bind fun t142 => (if t141 = t142 then ((varint_Zag.f t139).bind fun t143 => (if t143 = a0 then ((varint_Zig.f t141).bind fun t144 => (pleachlaw01_VarintSigns.j0 k a0 bt133.1 bt133.2.1 bt133.2.2 bt136.1 bt136.2.1 bt136.2.2 (t144 != a1))) else (pleachlaw01_VarintSigns.j0 k a0 bt133.1 bt133.2.1 bt133.2.2 bt136.1 bt136.2.1 bt136.2.2 true))) else (pleachlaw01_VarintSigns.j0 k a0 bt133.1 bt133.2.1 bt133.2.2 bt136.1 bt136.2.1 bt136.2.2 true)))) else (pleachlaw01_VarintSigns.j0 k a0 bt133.1 bt133.2.1 bt133.2.2 bt136.1 bt136.2.1 bt136.2.2 true))))))
theorem pleachlaw01_VarintSigns.mono_l : ∀ k, (∀ y0 y1 y2 y3 y4 y5 y6 y7, LeO (pleachlaw01_VarintSigns.j0 k y0 y1 y2 y3 y4 y5 y6 y7) (pleachlaw01_VarintSigns.j0 (k + 1) y0 y1 y2 y3 y4 y5 y6 y7))
  | 0 => fun _ _ _ _ _ _ _ _ r h => by simp [pleachlaw01_VarintSigns.j0] at h
  | k + 1 => by
    have ih0 := pleachlaw01_VarintSigns.mono_l k
    · intro y0 y1 y2 y3 y4 y5 y6 y7
      unfold pleachlaw01_VarintSigns.j0
      repeat' first
      | (with_reducible exact ih0 _ _ _ _ _ _ _ _)
      | (with_reducible exact LeO.refl _)
      | (with_reducible exact LeO.none _)
      | (with_reducible refine LeO.ite ?_ ?_)
      | (with_reducible refine LeO.bind ?_ (fun _ => ?_))
      | exact ih0 _ _ _ _ _ _ _ _
      | exact LeO.none _
      | refine LeO.ite ?_ ?_
      | refine LeO.bind ?_ (fun _ => ?_)
theorem pleachlaw01_VarintSigns.mono : ∀ a0 a1 a2 k, LeO (pleachlaw01_VarintSigns.f k a0 a1 a2) (pleachlaw01_VarintSigns.f (k + 1) a0 a1 a2) := by
  intro a0 a1 a2 k
  have ih0 := pleachlaw01_VarintSigns.mono_l k
  unfold pleachlaw01_VarintSigns.f
  repeat' first
      | (with_reducible exact ih0 _ _ _ _ _ _ _ _)
      | (with_reducible exact LeO.refl _)
      | (with_reducible exact LeO.none _)
      | (with_reducible refine LeO.ite ?_ ?_)
      | (with_reducible refine LeO.bind ?_ (fun _ => ?_))
      | exact ih0 _ _ _ _ _ _ _ _
      | exact LeO.none _
      | refine LeO.ite ?_ ?_
      | refine LeO.bind ?_ (fun _ => ?_)
set_option maxHeartbeats 8000000 in
set_option maxRecDepth 100000 in
theorem pleachlaw01_VarintSigns.calls (k : Nat) (a0 : Int) (a1 : Int) (a2 : ByteArray) (r : Bool) (w : World) (h : pleachlaw01_VarintSigns.f k a0 a1 a2 = some r) :
    Calls Try.prog 4 #[.int .i64 a0, .int .u64 a1, .string a2] w fun e w' => e = .returned (.bool r) ∧ Below w.heap.size w w' := by
  have HB := Aside0.mk (Below.refl w.heap.size w)
  have H : (if (a2.size : Int) > 1000 then ((pleachlaw01_awake.f).bind fun t132 => (some t132)) else ((varint_GetInt.f a2).bind fun bt133 => ((pleachref01_Get.f a2).bind fun bt136 => ((varint_Zig.f a0).bind fun t139 => ((pleachref01_Zig.f a0).bind fun t140 => (if t139 = t140 then ((varint_Zag.f a1).bind fun t141 => ((pleachref01_Zag.f a1).bind fun t142 => (if t141 = t142 then ((varint_Zag.f t139).bind fun t143 => (if t143 = a0 then ((varint_Zig.f t141).bind fun t144 => (pleachlaw01_VarintSigns.j0 k a0 bt133.1 bt133.2.1 bt133.2.2 bt136.1 bt136.2.1 bt136.2.2 (t144 != a1))) else (pleachlaw01_VarintSigns.j0 k a0 bt133.1 bt133.2.1 bt133.2.2 bt136.1 bt136.2.1 bt136.2.2 true))) else (pleachlaw01_VarintSigns.j0 k a0 bt133.1 bt133.2.1 bt133.2.2 bt136.1 bt136.2.1 bt136.2.2 true)))) else (pleachlaw01_VarintSigns.j0 k a0 bt133.1 bt133.2.1 bt133.2.2 bt136.1 bt136.2.1 bt136.2.2 true))))))) = some r := h
  clear h
  by_cases c4 : (a2.size : Int) > 1000
  · rw [if_pos c4] at H
    have c4b0 : decide (1000 < (a2.size : Int)) = true := decide_eq_true c4
    have c4b1 : decide (1000 < a2.size) = true := decide_eq_true (by omega)
    clear c4
    replace H := Option.bind_eq_some_iff.mp H
    obtain ⟨t132, A50, H⟩ := H
    replace H : (some t132) = some r := H
    have A5 := Aside0.mk A50
    clear A50
    obtain rfl := Option.some.inj H
    go_enter Try.func4, Try.ntmps4
    go_wp2_with (first | ((with_reducible refine gate_callee (f := 7) rfl ?_); refine goesL_ (some 16) rfl rfl Try.func7 (by kernel_rfl) rfl #[] rfl (by (try simp only [List.map_toArray, List.map_cons, List.map_nil]); first | done | rfl | (simp only [List.length_drop, List.length_take]; rfl)) ?_; (with_reducible refine (pleachlaw01_awake.calls  t132 _ A5.out).mono ?_); rintro e w6 ⟨rfl, hb⟩; refine ⟨_, rfl, ?_⟩; have n0_ := Aside0.mk (below_step (by repeat (first | (with_reducible first | exact HB.out | apply below_alloc | apply pw_below_drewN | apply below_drew1) | exact HB.out)) hb); clear HB; have HB := n0_; clear n0_; (try clear hb); (try clear hb2); (try clear hk); (try clear hi)))
    go_ret
    exact ⟨by first | rfl | (simp [errW_none, errW_some] <;> rfl) | (simp [*, errW_none, errW_some] <;> rfl), by repeat (first | (with_reducible first | exact HB.out | apply below_alloc | apply pw_below_drewN | apply below_drew1) | exact HB.out)⟩
  · rw [if_neg c4] at H
    have c4b0 : decide (1000 < (a2.size : Int)) = false := decide_eq_false c4
    have c4b1 : decide (1000 < a2.size) = false := decide_eq_false (by omega)
    clear c4
    replace H := Option.bind_eq_some_iff.mp H
    obtain ⟨⟨t133, t134, t135⟩, A70, H⟩ := H
    replace H : ((pleachref01_Get.f a2).bind fun bt136 => ((varint_Zig.f a0).bind fun t139 => ((pleachref01_Zig.f a0).bind fun t140 => (if t139 = t140 then ((varint_Zag.f a1).bind fun t141 => ((pleachref01_Zag.f a1).bind fun t142 => (if t141 = t142 then ((varint_Zag.f t139).bind fun t143 => (if t143 = a0 then ((varint_Zig.f t141).bind fun t144 => (pleachlaw01_VarintSigns.j0 k a0 t133 t134 t135 bt136.1 bt136.2.1 bt136.2.2 (t144 != a1))) else (pleachlaw01_VarintSigns.j0 k a0 t133 t134 t135 bt136.1 bt136.2.1 bt136.2.2 true))) else (pleachlaw01_VarintSigns.j0 k a0 t133 t134 t135 bt136.1 bt136.2.1 bt136.2.2 true)))) else (pleachlaw01_VarintSigns.j0 k a0 t133 t134 t135 bt136.1 bt136.2.1 bt136.2.2 true))))) = some r := H
    have A7 := Aside0.mk A70
    clear A70
    replace H := Option.bind_eq_some_iff.mp H
    obtain ⟨⟨t136, t137, t138⟩, A80, H⟩ := H
    replace H : ((varint_Zig.f a0).bind fun t139 => ((pleachref01_Zig.f a0).bind fun t140 => (if t139 = t140 then ((varint_Zag.f a1).bind fun t141 => ((pleachref01_Zag.f a1).bind fun t142 => (if t141 = t142 then ((varint_Zag.f t139).bind fun t143 => (if t143 = a0 then ((varint_Zig.f t141).bind fun t144 => (pleachlaw01_VarintSigns.j0 k a0 t133 t134 t135 t136 t137 t138 (t144 != a1))) else (pleachlaw01_VarintSigns.j0 k a0 t133 t134 t135 t136 t137 t138 true))) else (pleachlaw01_VarintSigns.j0 k a0 t133 t134 t135 t136 t137 t138 true)))) else (pleachlaw01_VarintSigns.j0 k a0 t133 t134 t135 t136 t137 t138 true)))) = some r := H
    have A8 := Aside0.mk A80
    clear A80
    have HC9 := Aside0.mk H
    clear H
    go_enter Try.func4, Try.ntmps4
    go_upto_region 5 with (first | ((with_reducible refine gate_callee (f := 10) rfl ?_); refine goesL_ (some 19) rfl rfl Try.func10 (by kernel_rfl) rfl #[.string a2] rfl (by (try simp only [List.map_toArray, List.map_cons, List.map_nil]); first | done | rfl | (simp only [List.length_drop, List.length_take]; rfl)) ?_; (with_reducible refine (varint_GetInt.calls a2 t133 t134 t135 _ A7.out).mono ?_); rintro e w10 ⟨rfl, hb⟩; refine ⟨_, rfl, ?_⟩; have n0_ := Aside0.mk (below_step (by repeat (first | (with_reducible first | exact HB.out | apply below_alloc | apply pw_below_drewN | apply below_drew1) | exact HB.out)) hb); clear HB; have HB := n0_; clear n0_; (try clear hb); (try clear hb2); (try clear hk); (try clear hi)) | ((with_reducible refine gate_callee (f := 11) rfl ?_); refine goesL_ (some 25) rfl rfl Try.func11 (by kernel_rfl) rfl #[.string a2] rfl (by (try simp only [List.map_toArray, List.map_cons, List.map_nil]); first | done | rfl | (simp only [List.length_drop, List.length_take]; rfl)) ?_; (with_reducible refine (pleachref01_Get.calls a2 t136 t137 t138 _ A8.out).mono ?_); rintro e w11 ⟨rfl, hb⟩; refine ⟨_, rfl, ?_⟩; have n0_ := Aside0.mk (below_step (by repeat (first | (with_reducible first | exact HB.out | apply below_alloc | apply pw_below_drewN | apply below_drew1) | exact HB.out)) hb); clear HB; have HB := n0_; clear n0_; (try clear hb); (try clear hb2); (try clear hk); (try clear hi)))
    (try simp only [Act.put, List.setIfInBounds_toArray, List.set_cons_zero, List.set_cons_succ])
    go_cut [54] (fun v54 wc => ∃ (kq : Nat) (x54_8 : Bool), v54 = .bool x54_8 ∧ Aside0 (pleachlaw01_VarintSigns.j0 kq a0 t133 t134 t135 t136 t137 t138 x54_8 = some r) ∧ Aside0 (kq ≤ k) ∧ Aside0 (Below w.heap.size w wc))
    case first =>
      have H := HC9.out
      clear HC9
      replace H := Option.bind_eq_some_iff.mp H
      obtain ⟨t139, A120, H⟩ := H
      replace H : ((pleachref01_Zig.f a0).bind fun t140 => (if t139 = t140 then ((varint_Zag.f a1).bind fun t141 => ((pleachref01_Zag.f a1).bind fun t142 => (if t141 = t142 then ((varint_Zag.f t139).bind fun t143 => (if t143 = a0 then ((varint_Zig.f t141).bind fun t144 => (pleachlaw01_VarintSigns.j0 k a0 t133 t134 t135 t136 t137 t138 (t144 != a1))) else (pleachlaw01_VarintSigns.j0 k a0 t133 t134 t135 t136 t137 t138 true))) else (pleachlaw01_VarintSigns.j0 k a0 t133 t134 t135 t136 t137 t138 true)))) else (pleachlaw01_VarintSigns.j0 k a0 t133 t134 t135 t136 t137 t138 true))) = some r := H
      have A12 := Aside0.mk A120
      clear A120
      replace H := Option.bind_eq_some_iff.mp H
      obtain ⟨t140, A130, H⟩ := H
      replace H : (if t139 = t140 then ((varint_Zag.f a1).bind fun t141 => ((pleachref01_Zag.f a1).bind fun t142 => (if t141 = t142 then ((varint_Zag.f t139).bind fun t143 => (if t143 = a0 then ((varint_Zig.f t141).bind fun t144 => (pleachlaw01_VarintSigns.j0 k a0 t133 t134 t135 t136 t137 t138 (t144 != a1))) else (pleachlaw01_VarintSigns.j0 k a0 t133 t134 t135 t136 t137 t138 true))) else (pleachlaw01_VarintSigns.j0 k a0 t133 t134 t135 t136 t137 t138 true)))) else (pleachlaw01_VarintSigns.j0 k a0 t133 t134 t135 t136 t137 t138 true)) = some r := H
      have A13 := Aside0.mk A130
      clear A130
      by_cases c14 : t139 = t140
      · rw [if_pos c14] at H
        have c14b0 : (t139 == t140) = true := beq_iff_eq.mpr c14
        have c14b1 : (t139 != t140) = false := bne_eq_false_iff_eq.mpr c14
        clear c14
        (first | rw [c14b0] | (simp only [i64_w, i32_w]; rw [c14b0]) | skip)
        replace H := Option.bind_eq_some_iff.mp H
        obtain ⟨t141, A150, H⟩ := H
        replace H : ((pleachref01_Zag.f a1).bind fun t142 => (if t141 = t142 then ((varint_Zag.f t139).bind fun t143 => (if t143 = a0 then ((varint_Zig.f t141).bind fun t144 => (pleachlaw01_VarintSigns.j0 k a0 t133 t134 t135 t136 t137 t138 (t144 != a1))) else (pleachlaw01_VarintSigns.j0 k a0 t133 t134 t135 t136 t137 t138 true))) else (pleachlaw01_VarintSigns.j0 k a0 t133 t134 t135 t136 t137 t138 true))) = some r := H
        have A15 := Aside0.mk A150
        clear A150
        replace H := Option.bind_eq_some_iff.mp H
        obtain ⟨t142, A160, H⟩ := H
        replace H : (if t141 = t142 then ((varint_Zag.f t139).bind fun t143 => (if t143 = a0 then ((varint_Zig.f t141).bind fun t144 => (pleachlaw01_VarintSigns.j0 k a0 t133 t134 t135 t136 t137 t138 (t144 != a1))) else (pleachlaw01_VarintSigns.j0 k a0 t133 t134 t135 t136 t137 t138 true))) else (pleachlaw01_VarintSigns.j0 k a0 t133 t134 t135 t136 t137 t138 true)) = some r := H
        have A16 := Aside0.mk A160
        clear A160
        by_cases c17 : t141 = t142
        · rw [if_pos c17] at H
          have c17b0 : (t141 == t142) = true := beq_iff_eq.mpr c17
          have c17b1 : (t141 != t142) = false := bne_eq_false_iff_eq.mpr c17
          clear c17
          replace H := Option.bind_eq_some_iff.mp H
          obtain ⟨t143, A180, H⟩ := H
          replace H : (if t143 = a0 then ((varint_Zig.f t141).bind fun t144 => (pleachlaw01_VarintSigns.j0 k a0 t133 t134 t135 t136 t137 t138 (t144 != a1))) else (pleachlaw01_VarintSigns.j0 k a0 t133 t134 t135 t136 t137 t138 true)) = some r := H
          have A18 := Aside0.mk A180
          clear A180
          by_cases c19 : t143 = a0
          · rw [if_pos c19] at H
            have c19b0 : (t143 == a0) = true := beq_iff_eq.mpr c19
            have c19b1 : (t143 != a0) = false := bne_eq_false_iff_eq.mpr c19
            clear c19
            replace H := Option.bind_eq_some_iff.mp H
            obtain ⟨t144, A200, H⟩ := H
            replace H : (pleachlaw01_VarintSigns.j0 k a0 t133 t134 t135 t136 t137 t138 (t144 != a1)) = some r := H
            have A20 := Aside0.mk A200
            clear A200
            have H' := Aside0.mk H
            clear H
            go_wp2_with (first | (go_at_call 12; (with_reducible refine (varint_Zig.calls a0 t139 _ A12.out).mono ?_); rintro e w' ⟨rfl, ⟨nd, rfl⟩⟩) | (go_at_call 13; (with_reducible refine (pleachref01_Zig.calls a0 t140 _ A13.out).mono ?_); rintro e w' ⟨rfl, ⟨nd, rfl⟩⟩) | (go_at_call 14; (with_reducible refine (varint_Zag.calls a1 t141 _ A15.out).mono ?_); rintro e w' ⟨rfl, ⟨nd, rfl⟩⟩) | (go_at_call 15; (with_reducible refine (pleachref01_Zag.calls a1 t142 _ A16.out).mono ?_); rintro e w' ⟨rfl, ⟨nd, rfl⟩⟩) | (go_at_call 14; (with_reducible refine (varint_Zag.calls t139 t143 _ A18.out).mono ?_); rintro e w' ⟨rfl, ⟨nd, rfl⟩⟩) | (go_at_call 12; (with_reducible refine (varint_Zig.calls t141 t144 _ A20.out).mono ?_); rintro e w' ⟨rfl, ⟨nd, rfl⟩⟩))
            go_meet
            case rel => exact ⟨_, ((t144 != a1)), (by first | rfl | (simp; done) | (simp [*]; done)), H', ⟨by first | omega | exact Nat.le_refl _⟩, ⟨by repeat (first | (with_reducible first | exact HB.out | apply below_alloc | apply pw_below_drewN | apply below_drew1) | exact HB.out)⟩⟩
          · rw [if_neg c19] at H
            have c19b0 : (t143 == a0) = false := beq_eq_false_iff_ne.mpr c19
            have c19b1 : (t143 != a0) = true := bne_iff_ne.mpr c19
            have H' := Aside0.mk H
            clear H
            go_wp2_with (first | (go_at_call 12; (with_reducible refine (varint_Zig.calls a0 t139 _ A12.out).mono ?_); rintro e w' ⟨rfl, ⟨nd, rfl⟩⟩) | (go_at_call 13; (with_reducible refine (pleachref01_Zig.calls a0 t140 _ A13.out).mono ?_); rintro e w' ⟨rfl, ⟨nd, rfl⟩⟩) | (go_at_call 14; (with_reducible refine (varint_Zag.calls a1 t141 _ A15.out).mono ?_); rintro e w' ⟨rfl, ⟨nd, rfl⟩⟩) | (go_at_call 15; (with_reducible refine (pleachref01_Zag.calls a1 t142 _ A16.out).mono ?_); rintro e w' ⟨rfl, ⟨nd, rfl⟩⟩) | (go_at_call 14; (with_reducible refine (varint_Zag.calls t139 t143 _ A18.out).mono ?_); rintro e w' ⟨rfl, ⟨nd, rfl⟩⟩))
            go_meet
            case rel => exact ⟨_, (true), (by first | rfl | (simp; done) | (simp [*]; done)), H', ⟨by first | omega | exact Nat.le_refl _⟩, ⟨by repeat (first | (with_reducible first | exact HB.out | apply below_alloc | apply pw_below_drewN | apply below_drew1) | exact HB.out)⟩⟩
        · rw [if_neg c17] at H
          have c17b0 : (t141 == t142) = false := beq_eq_false_iff_ne.mpr c17
          have c17b1 : (t141 != t142) = true := bne_iff_ne.mpr c17
          have H' := Aside0.mk H
          clear H
          go_wp2_with (first | (go_at_call 12; (with_reducible refine (varint_Zig.calls a0 t139 _ A12.out).mono ?_); rintro e w' ⟨rfl, ⟨nd, rfl⟩⟩) | (go_at_call 13; (with_reducible refine (pleachref01_Zig.calls a0 t140 _ A13.out).mono ?_); rintro e w' ⟨rfl, ⟨nd, rfl⟩⟩) | (go_at_call 14; (with_reducible refine (varint_Zag.calls a1 t141 _ A15.out).mono ?_); rintro e w' ⟨rfl, ⟨nd, rfl⟩⟩) | (go_at_call 15; (with_reducible refine (pleachref01_Zag.calls a1 t142 _ A16.out).mono ?_); rintro e w' ⟨rfl, ⟨nd, rfl⟩⟩))
          go_meet
          case rel => exact ⟨_, (true), (by first | rfl | (simp; done) | (simp [*]; done)), H', ⟨by first | omega | exact Nat.le_refl _⟩, ⟨by repeat (first | (with_reducible first | exact HB.out | apply below_alloc | apply pw_below_drewN | apply below_drew1) | exact HB.out)⟩⟩
      · rw [if_neg c14] at H
        have c14b0 : (t139 == t140) = false := beq_eq_false_iff_ne.mpr c14
        have c14b1 : (t139 != t140) = true := bne_iff_ne.mpr c14
        (first | rw [c14b0] | (simp only [i64_w, i32_w]; rw [c14b0]) | skip)
        have H' := Aside0.mk H
        clear H
        go_wp2_with (first | (go_at_call 12; (with_reducible refine (varint_Zig.calls a0 t139 _ A12.out).mono ?_); rintro e w' ⟨rfl, ⟨nd, rfl⟩⟩) | (go_at_call 13; (with_reducible refine (pleachref01_Zig.calls a0 t140 _ A13.out).mono ?_); rintro e w' ⟨rfl, ⟨nd, rfl⟩⟩))
        go_meet
        case rel => exact ⟨_, (true), (by first | rfl | (simp; done) | (simp [*]; done)), H', ⟨by first | omega | exact Nat.le_refl _⟩, ⟨by repeat (first | (with_reducible first | exact HB.out | apply below_alloc | apply pw_below_drewN | apply below_drew1) | exact HB.out)⟩⟩
    case rest =>
      clear HC9
      try clear c1
      try clear p2
      try clear c4
      try clear c4b0
      try clear c4b1
      try clear c7
      try clear c10
      try clear c11
      try clear c14
      try clear c14b0
      try clear c14b1
      try clear c17
      try clear c17b0
      try clear c17b1
      try clear c19
      try clear c19b0
      try clear c19b1
      obtain ⟨kq, x54_8, rfl, HA, HJ8, HB⟩ := hcut
      cases kq with
      | zero => exact absurd HA.out (by simp [pleachlaw01_VarintSigns.j0])
      | succ kj8 =>
        have H := HA.out
        clear HA
        simp only [pleachlaw01_VarintSigns.j0] at H
        by_cases c21 : x54_8 = true
        · subst c21
          have H1 : (some false) = some r := by rw [if_pos rfl] at H; exact H
          clear H
          have H := H1
          clear H1
          obtain rfl := Option.some.inj H
          go_wp2
          go_ret
          exact ⟨by first | rfl | (simp [errW_none, errW_some] <;> rfl) | (simp [*, errW_none, errW_some] <;> rfl), by repeat (first | (with_reducible first | exact HB.out | apply below_alloc | apply pw_below_drewN | apply below_drew1) | exact HB.out)⟩
        · replace c21 := Bool.eq_false_iff.mpr c21
          subst c21
          have H1 : ((varint_Int.f a0).bind fun t145 => ((pleachref01_Zig.f a0).bind fun t146 => ((pleachref01_Put.f t146).bind fun t147 => (if t145.toList = t147.toList then ((pleachref01_Zag.f t136).bind fun t148 => (if t133 = t148 then (if t134 = t137 then (if (t135 == t138) = true then ((pleachlaw01_awake.f).bind fun t149 => (some t149)) else (some false)) else (some false)) else (some false))) else (some false))))) = some r := by rw [if_neg (show ¬ (false = true) by decide)] at H; exact H
          clear H
          have H := H1
          clear H1
          replace H := Option.bind_eq_some_iff.mp H
          obtain ⟨t145, A220, H⟩ := H
          replace H : ((pleachref01_Zig.f a0).bind fun t146 => ((pleachref01_Put.f t146).bind fun t147 => (if t145.toList = t147.toList then ((pleachref01_Zag.f t136).bind fun t148 => (if t133 = t148 then (if t134 = t137 then (if (t135 == t138) = true then ((pleachlaw01_awake.f).bind fun t149 => (some t149)) else (some false)) else (some false)) else (some false))) else (some false)))) = some r := H
          have A22 := Aside0.mk A220
          clear A220
          replace H := Option.bind_eq_some_iff.mp H
          obtain ⟨t146, A230, H⟩ := H
          replace H : ((pleachref01_Put.f t146).bind fun t147 => (if t145.toList = t147.toList then ((pleachref01_Zag.f t136).bind fun t148 => (if t133 = t148 then (if t134 = t137 then (if (t135 == t138) = true then ((pleachlaw01_awake.f).bind fun t149 => (some t149)) else (some false)) else (some false)) else (some false))) else (some false))) = some r := H
          have A23 := Aside0.mk A230
          clear A230
          replace H := Option.bind_eq_some_iff.mp H
          obtain ⟨t147, A240, H⟩ := H
          replace H : (if t145.toList = t147.toList then ((pleachref01_Zag.f t136).bind fun t148 => (if t133 = t148 then (if t134 = t137 then (if (t135 == t138) = true then ((pleachlaw01_awake.f).bind fun t149 => (some t149)) else (some false)) else (some false)) else (some false))) else (some false)) = some r := H
          have A24 := Aside0.mk A240
          clear A240
          by_cases c25 : t145.toList = t147.toList
          · rw [if_pos c25] at H
            have c25b0 : (t145.toList == t147.toList) = true := beq_iff_eq.mpr c25
            have c25b1 : (t145.toList != t147.toList) = false := bne_eq_false_iff_eq.mpr c25
            clear c25
            replace H := Option.bind_eq_some_iff.mp H
            obtain ⟨t148, A260, H⟩ := H
            replace H : (if t133 = t148 then (if t134 = t137 then (if (t135 == t138) = true then ((pleachlaw01_awake.f).bind fun t149 => (some t149)) else (some false)) else (some false)) else (some false)) = some r := H
            have A26 := Aside0.mk A260
            clear A260
            by_cases c27 : t133 = t148
            · rw [if_pos c27] at H
              have c27b0 : (t133 == t148) = true := beq_iff_eq.mpr c27
              have c27b1 : (t133 != t148) = false := bne_eq_false_iff_eq.mpr c27
              clear c27
              by_cases c28 : t134 = t137
              · rw [if_pos c28] at H
                have c28b0 : (t134 == t137) = true := beq_iff_eq.mpr c28
                have c28b1 : (t134 != t137) = false := bne_eq_false_iff_eq.mpr c28
                clear c28
                by_cases c29 : (t135 == t138) = true
                · rw [if_pos c29] at H
                  have c29b0 : (t135 == t138) = true := c29
                  (try (have c29b1 : decide (t135 = t138) = true := by simpa using c29))
                  (try (have c29b2 : (t135 == t138) = true := by simpa using c29))
                  clear c29
                  replace H := Option.bind_eq_some_iff.mp H
                  obtain ⟨t149, A300, H⟩ := H
                  replace H : (some t149) = some r := H
                  have A30 := Aside0.mk A300
                  clear A300
                  obtain rfl := Option.some.inj H
                  go_wp2_with (first | ((with_reducible refine gate_callee (f := 16) rfl ?_); refine goesL_ (some 56) rfl rfl Try.func16 (by kernel_rfl) rfl #[.int .i64 a0] rfl (by (try simp only [List.map_toArray, List.map_cons, List.map_nil]); first | done | rfl | (simp only [List.length_drop, List.length_take]; rfl)) ?_; (with_reducible refine (varint_Int.calls a0 t145 _ A22.out).mono ?_); rintro e w31 ⟨rfl, hb⟩; refine ⟨_, rfl, ?_⟩; have n0_ := Aside0.mk (below_step (by repeat (first | (with_reducible first | exact HB.out | apply below_alloc | apply pw_below_drewN | apply below_drew1) | exact HB.out)) hb); clear HB; have HB := n0_; clear n0_; (try clear hb); (try clear hb2); (try clear hk); (try clear hi)) | (go_at_call 13; (with_reducible refine (pleachref01_Zig.calls a0 t146 _ A23.out).mono ?_); rintro e w' ⟨rfl, ⟨nd, rfl⟩⟩) | ((with_reducible refine gate_callee (f := 17) rfl ?_); refine goesL_ (some 59) rfl rfl Try.func17 (by kernel_rfl) rfl #[.int .u64 t146] rfl (by (try simp only [List.map_toArray, List.map_cons, List.map_nil]); first | done | rfl | (simp only [List.length_drop, List.length_take]; rfl)) ?_; (with_reducible refine (pleachref01_Put.calls t146 t147 _ A24.out).mono ?_); rintro e w32 ⟨rfl, hb⟩; refine ⟨_, rfl, ?_⟩; have n0_ := Aside0.mk (below_step (by repeat (first | (with_reducible first | exact HB.out | apply below_alloc | apply pw_below_drewN | apply below_drew1) | exact HB.out)) hb); clear HB; have HB := n0_; clear n0_; (try clear hb); (try clear hb2); (try clear hk); (try clear hi)) | (go_at_call 15; (with_reducible refine (pleachref01_Zag.calls t136 t148 _ A26.out).mono ?_); rintro e w' ⟨rfl, ⟨nd, rfl⟩⟩) | (go_at_call 7; (with_reducible refine (pleachlaw01_awake.calls  t149 _ A30.out).mono ?_); rintro e w33 ⟨rfl, hb⟩; have n0_ := Aside0.mk (below_step (by repeat (first | (with_reducible first | exact HB.out | apply below_alloc | apply pw_below_drewN | apply below_drew1) | exact HB.out)) hb); clear HB; have HB := n0_; clear n0_; (try clear hb); (try clear hb2); (try clear hk); (try clear hi)))
                  go_ret
                  exact ⟨by first | rfl | (simp [errW_none, errW_some] <;> rfl) | (simp [*, errW_none, errW_some] <;> rfl), by repeat (first | (with_reducible first | exact HB.out | apply below_alloc | apply pw_below_drewN | apply below_drew1) | exact HB.out)⟩
                · rw [if_neg c29] at H
                  have c29b0 : (t135 == t138) = false := by simpa using c29
                  (try (have c29b1 : decide (t135 = t138) = false := by simpa using c29))
                  (try (have c29b2 : (t135 == t138) = false := by simpa using c29))
                  (try (have c29b3 : ¬ (t135 = t138) := by simpa using c29))
                  clear c29
                  obtain rfl := Option.some.inj H
                  go_wp2_with (first | ((with_reducible refine gate_callee (f := 16) rfl ?_); refine goesL_ (some 56) rfl rfl Try.func16 (by kernel_rfl) rfl #[.int .i64 a0] rfl (by (try simp only [List.map_toArray, List.map_cons, List.map_nil]); first | done | rfl | (simp only [List.length_drop, List.length_take]; rfl)) ?_; (with_reducible refine (varint_Int.calls a0 t145 _ A22.out).mono ?_); rintro e w34 ⟨rfl, hb⟩; refine ⟨_, rfl, ?_⟩; have n0_ := Aside0.mk (below_step (by repeat (first | (with_reducible first | exact HB.out | apply below_alloc | apply pw_below_drewN | apply below_drew1) | exact HB.out)) hb); clear HB; have HB := n0_; clear n0_; (try clear hb); (try clear hb2); (try clear hk); (try clear hi)) | (go_at_call 13; (with_reducible refine (pleachref01_Zig.calls a0 t146 _ A23.out).mono ?_); rintro e w' ⟨rfl, ⟨nd, rfl⟩⟩) | ((with_reducible refine gate_callee (f := 17) rfl ?_); refine goesL_ (some 59) rfl rfl Try.func17 (by kernel_rfl) rfl #[.int .u64 t146] rfl (by (try simp only [List.map_toArray, List.map_cons, List.map_nil]); first | done | rfl | (simp only [List.length_drop, List.length_take]; rfl)) ?_; (with_reducible refine (pleachref01_Put.calls t146 t147 _ A24.out).mono ?_); rintro e w35 ⟨rfl, hb⟩; refine ⟨_, rfl, ?_⟩; have n0_ := Aside0.mk (below_step (by repeat (first | (with_reducible first | exact HB.out | apply below_alloc | apply pw_below_drewN | apply below_drew1) | exact HB.out)) hb); clear HB; have HB := n0_; clear n0_; (try clear hb); (try clear hb2); (try clear hk); (try clear hi)) | (go_at_call 15; (with_reducible refine (pleachref01_Zag.calls t136 t148 _ A26.out).mono ?_); rintro e w' ⟨rfl, ⟨nd, rfl⟩⟩))
                  go_ret
                  exact ⟨by first | rfl | (simp [errW_none, errW_some] <;> rfl) | (simp [*, errW_none, errW_some] <;> rfl), by repeat (first | (with_reducible first | exact HB.out | apply below_alloc | apply pw_below_drewN | apply below_drew1) | exact HB.out)⟩
              · rw [if_neg c28] at H
                have c28b0 : (t134 == t137) = false := beq_eq_false_iff_ne.mpr c28
                have c28b1 : (t134 != t137) = true := bne_iff_ne.mpr c28
                obtain rfl := Option.some.inj H
                go_wp2_with (first | ((with_reducible refine gate_callee (f := 16) rfl ?_); refine goesL_ (some 56) rfl rfl Try.func16 (by kernel_rfl) rfl #[.int .i64 a0] rfl (by (try simp only [List.map_toArray, List.map_cons, List.map_nil]); first | done | rfl | (simp only [List.length_drop, List.length_take]; rfl)) ?_; (with_reducible refine (varint_Int.calls a0 t145 _ A22.out).mono ?_); rintro e w36 ⟨rfl, hb⟩; refine ⟨_, rfl, ?_⟩; have n0_ := Aside0.mk (below_step (by repeat (first | (with_reducible first | exact HB.out | apply below_alloc | apply pw_below_drewN | apply below_drew1) | exact HB.out)) hb); clear HB; have HB := n0_; clear n0_; (try clear hb); (try clear hb2); (try clear hk); (try clear hi)) | (go_at_call 13; (with_reducible refine (pleachref01_Zig.calls a0 t146 _ A23.out).mono ?_); rintro e w' ⟨rfl, ⟨nd, rfl⟩⟩) | ((with_reducible refine gate_callee (f := 17) rfl ?_); refine goesL_ (some 59) rfl rfl Try.func17 (by kernel_rfl) rfl #[.int .u64 t146] rfl (by (try simp only [List.map_toArray, List.map_cons, List.map_nil]); first | done | rfl | (simp only [List.length_drop, List.length_take]; rfl)) ?_; (with_reducible refine (pleachref01_Put.calls t146 t147 _ A24.out).mono ?_); rintro e w37 ⟨rfl, hb⟩; refine ⟨_, rfl, ?_⟩; have n0_ := Aside0.mk (below_step (by repeat (first | (with_reducible first | exact HB.out | apply below_alloc | apply pw_below_drewN | apply below_drew1) | exact HB.out)) hb); clear HB; have HB := n0_; clear n0_; (try clear hb); (try clear hb2); (try clear hk); (try clear hi)) | (go_at_call 15; (with_reducible refine (pleachref01_Zag.calls t136 t148 _ A26.out).mono ?_); rintro e w' ⟨rfl, ⟨nd, rfl⟩⟩))
                go_ret
                exact ⟨by first | rfl | (simp [errW_none, errW_some] <;> rfl) | (simp [*, errW_none, errW_some] <;> rfl), by repeat (first | (with_reducible first | exact HB.out | apply below_alloc | apply pw_below_drewN | apply below_drew1) | exact HB.out)⟩
            · rw [if_neg c27] at H
              have c27b0 : (t133 == t148) = false := beq_eq_false_iff_ne.mpr c27
              have c27b1 : (t133 != t148) = true := bne_iff_ne.mpr c27
              obtain rfl := Option.some.inj H
              go_wp2_with (first | ((with_reducible refine gate_callee (f := 16) rfl ?_); refine goesL_ (some 56) rfl rfl Try.func16 (by kernel_rfl) rfl #[.int .i64 a0] rfl (by (try simp only [List.map_toArray, List.map_cons, List.map_nil]); first | done | rfl | (simp only [List.length_drop, List.length_take]; rfl)) ?_; (with_reducible refine (varint_Int.calls a0 t145 _ A22.out).mono ?_); rintro e w38 ⟨rfl, hb⟩; refine ⟨_, rfl, ?_⟩; have n0_ := Aside0.mk (below_step (by repeat (first | (with_reducible first | exact HB.out | apply below_alloc | apply pw_below_drewN | apply below_drew1) | exact HB.out)) hb); clear HB; have HB := n0_; clear n0_; (try clear hb); (try clear hb2); (try clear hk); (try clear hi)) | (go_at_call 13; (with_reducible refine (pleachref01_Zig.calls a0 t146 _ A23.out).mono ?_); rintro e w' ⟨rfl, ⟨nd, rfl⟩⟩) | ((with_reducible refine gate_callee (f := 17) rfl ?_); refine goesL_ (some 59) rfl rfl Try.func17 (by kernel_rfl) rfl #[.int .u64 t146] rfl (by (try simp only [List.map_toArray, List.map_cons, List.map_nil]); first | done | rfl | (simp only [List.length_drop, List.length_take]; rfl)) ?_; (with_reducible refine (pleachref01_Put.calls t146 t147 _ A24.out).mono ?_); rintro e w39 ⟨rfl, hb⟩; refine ⟨_, rfl, ?_⟩; have n0_ := Aside0.mk (below_step (by repeat (first | (with_reducible first | exact HB.out | apply below_alloc | apply pw_below_drewN | apply below_drew1) | exact HB.out)) hb); clear HB; have HB := n0_; clear n0_; (try clear hb); (try clear hb2); (try clear hk); (try clear hi)) | (go_at_call 15; (with_reducible refine (pleachref01_Zag.calls t136 t148 _ A26.out).mono ?_); rintro e w' ⟨rfl, ⟨nd, rfl⟩⟩))
              go_ret
              exact ⟨by first | rfl | (simp [errW_none, errW_some] <;> rfl) | (simp [*, errW_none, errW_some] <;> rfl), by repeat (first | (with_reducible first | exact HB.out | apply below_alloc | apply pw_below_drewN | apply below_drew1) | exact HB.out)⟩
          · rw [if_neg c25] at H
            have c25b0 : (t145.toList == t147.toList) = false := beq_eq_false_iff_ne.mpr c25
            have c25b1 : (t145.toList != t147.toList) = true := bne_iff_ne.mpr c25
            obtain rfl := Option.some.inj H
            go_wp2_with (first | ((with_reducible refine gate_callee (f := 16) rfl ?_); refine goesL_ (some 56) rfl rfl Try.func16 (by kernel_rfl) rfl #[.int .i64 a0] rfl (by (try simp only [List.map_toArray, List.map_cons, List.map_nil]); first | done | rfl | (simp only [List.length_drop, List.length_take]; rfl)) ?_; (with_reducible refine (varint_Int.calls a0 t145 _ A22.out).mono ?_); rintro e w40 ⟨rfl, hb⟩; refine ⟨_, rfl, ?_⟩; have n0_ := Aside0.mk (below_step (by repeat (first | (with_reducible first | exact HB.out | apply below_alloc | apply pw_below_drewN | apply below_drew1) | exact HB.out)) hb); clear HB; have HB := n0_; clear n0_; (try clear hb); (try clear hb2); (try clear hk); (try clear hi)) | (go_at_call 13; (with_reducible refine (pleachref01_Zig.calls a0 t146 _ A23.out).mono ?_); rintro e w' ⟨rfl, ⟨nd, rfl⟩⟩) | ((with_reducible refine gate_callee (f := 17) rfl ?_); refine goesL_ (some 59) rfl rfl Try.func17 (by kernel_rfl) rfl #[.int .u64 t146] rfl (by (try simp only [List.map_toArray, List.map_cons, List.map_nil]); first | done | rfl | (simp only [List.length_drop, List.length_take]; rfl)) ?_; (with_reducible refine (pleachref01_Put.calls t146 t147 _ A24.out).mono ?_); rintro e w41 ⟨rfl, hb⟩; refine ⟨_, rfl, ?_⟩; have n0_ := Aside0.mk (below_step (by repeat (first | (with_reducible first | exact HB.out | apply below_alloc | apply pw_below_drewN | apply below_drew1) | exact HB.out)) hb); clear HB; have HB := n0_; clear n0_; (try clear hb); (try clear hb2); (try clear hk); (try clear hi)))
            go_ret
            exact ⟨by first | rfl | (simp [errW_none, errW_some] <;> rfl) | (simp [*, errW_none, errW_some] <;> rfl), by repeat (first | (with_reducible first | exact HB.out | apply below_alloc | apply pw_below_drewN | apply below_drew1) | exact HB.out)⟩

/-- THE ONE PURE STATEMENT of pleachlaw01_VarintSigns: yours. -/
def pleachlaw01_VarintSigns.Pure : Prop := ∀ (a0 : Int) (a1 : Int) (a2 : ByteArray), (Lit.int .i64 a0).wf = true → (Lit.int .u64 a1).wf = true → a2.size ≤ 140737488351232 → ∃ k, pleachlaw01_VarintSigns.f k a0 a1 a2 = some true
theorem pleachlaw01_VarintSigns.walk (P : pleachlaw01_VarintSigns.Pure) (a0 : Int) (a1 : Int) (a2 : ByteArray) (w : World) (w0 : (Lit.int .i64 a0).wf = true) (w1 : (Lit.int .u64 a1).wf = true) (w2 : a2.size ≤ 140737488351232) :
    Calls Try.prog 4 #[.int .i64 a0, .int .u64 a1, .string a2] w fun e w' => e = .returned (.bool true) ∧ Below w.heap.size w w' := by
  obtain ⟨k, h⟩ := P a0 a1 a2 w0 w1 w2
  refine (pleachlaw01_VarintSigns.calls k a0 a1 a2 true w h).mono ?_
  rintro e w' ⟨rfl, hd⟩
  exact ⟨rfl, hd⟩

end Go.Proofs.Ytaooolfledfhoaa.EVarintSigns
