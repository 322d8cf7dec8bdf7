-- Written by this session's own program (wip/tools/ext.py) for this claim; Lean checks it.
import Derived.Test.YtkaglpjdeinbhaaERefsRecordsx0
import Derived.Test.YtkaglpjdeinbhaaERefsRecordsx5
import Derived.Test.YtkaglpjdeinbhaaERefsRecordsx6
namespace Go.Proofs.Ytkaglpjdeinbhaa.ERefsRecords
open Go.RowKit Go.Proofs.YtkaglpjdeinbhaaW.PrintWords Go.Proofs.YtkaglpjdeinbhaaW.PrintLast Go.Proofs.YtkaglpjdeinbhaaW.PrintMore
attribute [local go_sem] M.run_leq M.run_gtr M.run_geq max2_int min2_int max_two min_two max_three min_three max_four min_four   -- for this text's walks alone
set_option linter.unusedVariables false
set_option linter.unusedSimpArgs false

/-! ### refs_Set_p: function 10 -/
mutual
def refs_Set_p.j0 : Nat → List (S42) → Int → ByteArray → ByteArray → ByteArray → Bool → Option ((List (S42)) × Int)
  | 0, _, _, _, _, _, _ => none
  | k + 1, x0, x1, x2, x3, x4, x26 => if x26 = true then (some (([] : List (S42)), 2)) else ((refs_find.f x0 x1 x2).bind fun bt126 => (if bt126.2 = true then (refs_Set_p.j1 k x0 x1 x2 x3 x4 bt126.1 bt126.2 (x3.toList == ([] : List UInt8))) else (refs_Set_p.j1 k x0 x1 x2 x3 x4 bt126.1 bt126.2 false)))
def refs_Set_p.j4 : Nat → List (S42) → Int → ByteArray → ByteArray → Int → Bool → Option ((List (S42)) × Int)
  | 0, _, _, _, _, _, _ => none
  | k + 1, x0, x1, x2, x4, x12, x13 => (api_Ref_27.f x0).bind fun t129 => (if x4.toList = ([] : List UInt8) then ((api_Ref_28.f t129 x12 (wrap64 (x12 + 1))).bind fun t132 => (some (t132, 0))) else (if x13 = true then (if 0 ≤ x12 then (if x12 < (t129.length : Int) then (some ((t129.set (x12 : Int).toNat (⟨(rd_T42 t129 x12).f0, (rd_T42 t129 x12).f1, x4⟩ : S42)), 0)) else (none)) else (none)) else ((api_Ref_29.f t129 x12 (([(⟨x1, x2, x4⟩ : S42)] : List (S42)))).bind fun t139 => (some (t139, 0)))))
def refs_Set_p.j1 : Nat → List (S42) → Int → ByteArray → ByteArray → ByteArray → Int → Bool → Bool → Option ((List (S42)) × Int)
  | 0, _, _, _, _, _, _, _, _ => none
  | k + 1, x0, x1, x2, x3, x4, x12, x13, x34 => if x34 = true then (some (([] : List (S42)), 10)) else (if x13 = true then (refs_Set_p.j2 k x0 x1 x2 x3 x4 x12 x13 false) else (refs_Set_p.j2 k x0 x1 x2 x3 x4 x12 x13 (x3.toList != ([] : List UInt8))))
def refs_Set_p.j2 : Nat → List (S42) → Int → ByteArray → ByteArray → ByteArray → Int → Bool → Bool → Option ((List (S42)) × Int)
  | 0, _, _, _, _, _, _, _, _ => none
  | k + 1, x0, x1, x2, x3, x4, x12, x13, x40 => if x40 = true then (some (([] : List (S42)), 9)) else (if x13 = true then (if 0 ≤ x12 then (if x12 < (x0.length : Int) then (refs_Set_p.j3 k x0 x1 x2 x4 x12 x13 (((rd_T42 x0 x12).f2).toList != x3.toList)) else (none)) else (none)) else (refs_Set_p.j3 k x0 x1 x2 x4 x12 x13 false))
def refs_Set_p.j3 : Nat → List (S42) → Int → ByteArray → ByteArray → Int → Bool → Bool → Option ((List (S42)) × Int)
  | 0, _, _, _, _, _, _, _ => none
  | k + 1, x0, x1, x2, x4, x12, x13, x47 => if x47 = true then (some (([] : List (S42)), 12)) else (if x13 = true then (refs_Set_p.j4 k x0 x1 x2 x4 x12 x13) else (if (x0.length : Int) ≥ 64 then (some (([] : List (S42)), 5)) else (refs_Set_p.j4 k x0 x1 x2 x4 x12 x13)))
end
def refs_Set_p.f (k : Nat) (l0 : List (S42)) (a1 : Int) (a2 : ByteArray) (a3 : ByteArray) (a4 : ByteArray) : Option ((List (S42)) × Int) := (refs_may.f a1 a2).bind fun t125 => (if t125 = true then (if a3.toList = ([] : List UInt8) then (refs_Set_p.j0 k l0 a1 a2 a3 a4 (a4.toList == ([] : List UInt8))) else (refs_Set_p.j0 k l0 a1 a2 a3 a4 false)) else (refs_Set_p.j0 k l0 a1 a2 a3 a4 true))
theorem refs_Set_p.mono_l : ∀ k, (∀ y0 y1 y2 y3 y4 y5, LeO (refs_Set_p.j0 k y0 y1 y2 y3 y4 y5) (refs_Set_p.j0 (k + 1) y0 y1 y2 y3 y4 y5)) ∧ (∀ y0 y1 y2 y3 y4 y5, LeO (refs_Set_p.j4 k y0 y1 y2 y3 y4 y5) (refs_Set_p.j4 (k + 1) y0 y1 y2 y3 y4 y5)) ∧ (∀ y0 y1 y2 y3 y4 y5 y6 y7, LeO (refs_Set_p.j1 k y0 y1 y2 y3 y4 y5 y6 y7) (refs_Set_p.j1 (k + 1) y0 y1 y2 y3 y4 y5 y6 y7)) ∧ (∀ y0 y1 y2 y3 y4 y5 y6 y7, LeO (refs_Set_p.j2 k y0 y1 y2 y3 y4 y5 y6 y7) (refs_Set_p.j2 (k + 1) y0 y1 y2 y3 y4 y5 y6 y7)) ∧ (∀ y0 y1 y2 y3 y4 y5 y6, LeO (refs_Set_p.j3 k y0 y1 y2 y3 y4 y5 y6) (refs_Set_p.j3 (k + 1) y0 y1 y2 y3 y4 y5 y6))
  | 0 => ⟨fun _ _ _ _ _ _ r h => by simp [refs_Set_p.j0] at h, fun _ _ _ _ _ _ r h => by simp [refs_Set_p.j4] at h, fun _ _ _ _ _ _ _ _ r h => by simp [refs_Set_p.j1] at h, fun _ _ _ _ _ _ _ _ r h => by simp [refs_Set_p.j2] at h, fun _ _ _ _ _ _ _ r h => by simp [refs_Set_p.j3] at h⟩
  | k + 1 => by
    obtain ⟨ih0, ih1, ih2, ih3, ih4⟩ := refs_Set_p.mono_l k
    refine ⟨?_, ?_, ?_, ?_, ?_⟩
    · intro y0 y1 y2 y3 y4 y5
      unfold refs_Set_p.j0
      repeat' first
      | (with_reducible exact ih0 _ _ _ _ _ _)
      | (with_reducible exact ih1 _ _ _ _ _ _)
      | (with_reducible exact ih2 _ _ _ _ _ _ _ _)
      | (with_reducible exact ih3 _ _ _ _ _ _ _ _)
      | (with_reducible exact ih4 _ _ _ _ _ _ _)
      | (with_reducible exact LeO.refl _)
      | (with_reducible exact LeO.none _)
      | (with_reducible refine LeO.ite ?_ ?_)
      | (with_reducible refine LeO.bind ?_ (fun _ => ?_))
      | exact ih0 _ _ _ _ _ _
      | exact ih1 _ _ _ _ _ _
      | exact ih2 _ _ _ _ _ _ _ _
      | exact ih3 _ _ _ _ _ _ _ _
      | exact ih4 _ _ _ _ _ _ _
      | exact LeO.none _
      | refine LeO.ite ?_ ?_
      | refine LeO.bind ?_ (fun _ => ?_)
    · intro y0 y1 y2 y3 y4 y5
      unfold refs_Set_p.j4
      repeat' first
      | (with_reducible exact ih0 _ _ _ _ _ _)
      | (with_reducible exact ih1 _ _ _ _ _ _)
      | (with_reducible exact ih2 _ _ _ _ _ _ _ _)
      | (with_reducible exact ih3 _ _ _ _ _ _ _ _)
      | (with_reducible exact ih4 _ _ _ _ _ _ _)
      | (with_reducible exact LeO.refl _)
      | (with_reducible exact LeO.none _)
      | (with_reducible refine LeO.ite ?_ ?_)
      | (with_reducible refine LeO.bind ?_ (fun _ => ?_))
      | exact ih0 _ _ _ _ _ _
      | exact ih1 _ _ _ _ _ _
      | exact ih2 _ _ _ _ _ _ _ _
      | exact ih3 _ _ _ _ _ _ _ _
      | exact ih4 _ _ _ _ _ _ _
      | exact LeO.none _
      | refine LeO.ite ?_ ?_
      | refine LeO.bind ?_ (fun _ => ?_)
    · intro y0 y1 y2 y3 y4 y5 y6 y7
      unfold refs_Set_p.j1
      repeat' first
      | (with_reducible exact ih0 _ _ _ _ _ _)
      | (with_reducible exact ih1 _ _ _ _ _ _)
      | (with_reducible exact ih2 _ _ _ _ _ _ _ _)
      | (with_reducible exact ih3 _ _ _ _ _ _ _ _)
      | (with_reducible exact ih4 _ _ _ _ _ _ _)
      | (with_reducible exact LeO.refl _)
      | (with_reducible exact LeO.none _)
      | (with_reducible refine LeO.ite ?_ ?_)
      | (with_reducible refine LeO.bind ?_ (fun _ => ?_))
      | exact ih0 _ _ _ _ _ _
      | exact ih1 _ _ _ _ _ _
      | exact ih2 _ _ _ _ _ _ _ _
      | exact ih3 _ _ _ _ _ _ _ _
      | exact ih4 _ _ _ _ _ _ _
      | exact LeO.none _
      | refine LeO.ite ?_ ?_
      | refine LeO.bind ?_ (fun _ => ?_)
    · intro y0 y1 y2 y3 y4 y5 y6 y7
      unfold refs_Set_p.j2
      repeat' first
      | (with_reducible exact ih0 _ _ _ _ _ _)
      | (with_reducible exact ih1 _ _ _ _ _ _)
      | (with_reducible exact ih2 _ _ _ _ _ _ _ _)
      | (with_reducible exact ih3 _ _ _ _ _ _ _ _)
      | (with_reducible exact ih4 _ _ _ _ _ _ _)
      | (with_reducible exact LeO.refl _)
      | (with_reducible exact LeO.none _)
      | (with_reducible refine LeO.ite ?_ ?_)
      | (with_reducible refine LeO.bind ?_ (fun _ => ?_))
      | exact ih0 _ _ _ _ _ _
      | exact ih1 _ _ _ _ _ _
      | exact ih2 _ _ _ _ _ _ _ _
      | exact ih3 _ _ _ _ _ _ _ _
      | exact ih4 _ _ _ _ _ _ _
      | exact LeO.none _
      | refine LeO.ite ?_ ?_
      | refine LeO.bind ?_ (fun _ => ?_)
    · intro y0 y1 y2 y3 y4 y5 y6
      unfold refs_Set_p.j3
      repeat' first
      | (with_reducible exact ih0 _ _ _ _ _ _)
      | (with_reducible exact ih1 _ _ _ _ _ _)
      | (with_reducible exact ih2 _ _ _ _ _ _ _ _)
      | (with_reducible exact ih3 _ _ _ _ _ _ _ _)
      | (with_reducible exact ih4 _ _ _ _ _ _ _)
      | (with_reducible exact LeO.refl _)
      | (with_reducible exact LeO.none _)
      | (with_reducible refine LeO.ite ?_ ?_)
      | (with_reducible refine LeO.bind ?_ (fun _ => ?_))
      | exact ih0 _ _ _ _ _ _
      | exact ih1 _ _ _ _ _ _
      | exact ih2 _ _ _ _ _ _ _ _
      | exact ih3 _ _ _ _ _ _ _ _
      | exact ih4 _ _ _ _ _ _ _
      | exact LeO.none _
      | refine LeO.ite ?_ ?_
      | refine LeO.bind ?_ (fun _ => ?_)
theorem refs_Set_p.mono : ∀ a0 a1 a2 a3 a4 k, LeO (refs_Set_p.f k a0 a1 a2 a3 a4) (refs_Set_p.f (k + 1) a0 a1 a2 a3 a4) := by
  intro a0 a1 a2 a3 a4 k
  obtain ⟨ih0, ih1, ih2, ih3, ih4⟩ := refs_Set_p.mono_l k
  unfold refs_Set_p.f
  repeat' first
      | (with_reducible exact ih0 _ _ _ _ _ _)
      | (with_reducible exact ih1 _ _ _ _ _ _)
      | (with_reducible exact ih2 _ _ _ _ _ _ _ _)
      | (with_reducible exact ih3 _ _ _ _ _ _ _ _)
      | (with_reducible exact ih4 _ _ _ _ _ _ _)
      | (with_reducible exact LeO.refl _)
      | (with_reducible exact LeO.none _)
      | (with_reducible refine LeO.ite ?_ ?_)
      | (with_reducible refine LeO.bind ?_ (fun _ => ?_))
      | exact ih0 _ _ _ _ _ _
      | exact ih1 _ _ _ _ _ _
      | exact ih2 _ _ _ _ _ _ _ _
      | exact ih3 _ _ _ _ _ _ _ _
      | exact ih4 _ _ _ _ _ _ _
      | exact LeO.none _
      | refine LeO.ite ?_ ?_
      | refine LeO.bind ?_ (fun _ => ?_)
set_option maxHeartbeats 8000000 in
set_option maxRecDepth 100000 in
theorem refs_Set_p.calls (k : Nat) (A0 : Option Addr) (c0 : Nat) (l0 : List (S42)) (a1 : Int) (a2 : ByteArray) (a3 : ByteArray) (a4 : ByteArray) (r1 : List (S42)) (r2 : Int) (w : World) (hr0 : Kd.C k42 w A0 l0.length l0) (hc0 : l0.length ≤ c0) (h : refs_Set_p.f k l0 a1 a2 a3 a4 = some (r1, r2)) :
    Calls Try.prog 10 #[.slice A0 l0.length c0, .int .i64 a1, .string a2, .string a3, .string a4] w fun e w' => ∃ v0_ : Value, e = .returned (.tuple #[v0_, .int .i64 r2]) ∧ Kd.R k42 42 w' w.heap.size (fun _ => True) v0_ r1 ∧ Below w.heap.size w w' := by
  have hu42 := Try.underlying42
  have HR0 := Aside0.mk hr0
  have HC0 := Aside0.mk hc0
  clear hr0 hc0
  have HB := Aside0.mk (Below.refl w.heap.size w)
  have H : ((refs_may.f a1 a2).bind fun t125 => (if t125 = true then (if a3.toList = ([] : List UInt8) then (refs_Set_p.j0 k l0 a1 a2 a3 a4 (a4.toList == ([] : List UInt8))) else (refs_Set_p.j0 k l0 a1 a2 a3 a4 false)) else (refs_Set_p.j0 k l0 a1 a2 a3 a4 true))) = some (r1, r2) := h
  clear h
  have HC6 := Aside0.mk H
  clear H
  go_enter Try.func10, Try.ntmps10
  go_upto_region 1 with (fail)
  go_cut [26] (fun v26 wc => ∃ (kq : Nat) (x26_5 : Bool), v26 = .bool x26_5 ∧ Aside0 (refs_Set_p.j0 kq l0 a1 a2 a3 a4 x26_5 = some (r1, r2)) ∧ Aside0 (kq ≤ k) ∧ Aside0 (Below w.heap.size w wc))
  case first =>
    have H := HC6.out
    clear HC6
    replace H := Option.bind_eq_some_iff.mp H
    obtain ⟨t125, A70, H⟩ := H
    replace H : (if t125 = true then (if a3.toList = ([] : List UInt8) then (refs_Set_p.j0 k l0 a1 a2 a3 a4 (a4.toList == ([] : List UInt8))) else (refs_Set_p.j0 k l0 a1 a2 a3 a4 false)) else (refs_Set_p.j0 k l0 a1 a2 a3 a4 true)) = some (r1, r2) := H
    have A7 := Aside0.mk A70
    clear A70
    by_cases c8 : t125 = true
    · subst c8
      have H1 : (if a3.toList = ([] : List UInt8) then (refs_Set_p.j0 k l0 a1 a2 a3 a4 (a4.toList == ([] : List UInt8))) else (refs_Set_p.j0 k l0 a1 a2 a3 a4 false)) = some (r1, r2) := by rw [if_pos rfl] at H; exact H
      clear H
      have H := H1
      clear H1
      by_cases c9 : a3.toList = ([] : List UInt8)
      · rw [if_pos c9] at H
        have c9b0 : (a3.toList == ([] : List UInt8)) = true := beq_iff_eq.mpr c9
        have c9b1 : (a3.toList != ([] : List UInt8)) = false := bne_eq_false_iff_eq.mpr c9
        clear c9
        (first | rw [c9b0] | (simp only [i64_w, i32_w]; rw [c9b0]) | skip)
        have H' := Aside0.mk H
        clear H
        go_wp2_with (first | ((with_reducible refine gate_callee (f := 25) rfl ?_); refine M.goes (some 17) Try.func25 #[.int .i64 a1, .string a2] rfl ?_; (with_reducible refine (refs_may.calls a1 a2 true _ A7.out).mono ?_); rintro e w' ⟨rfl, ⟨nd, rfl⟩⟩; refine ⟨_, rfl, ?_⟩))
        go_meet
        case rel => exact ⟨_, ((a4.toList == ([] : List UInt8))), (by first | rfl | (simp; done) | (simp [*]; done) | (simp [M.isEmpty_bne]; done)), H', ⟨by first | omega | exact Nat.le_refl _⟩, ⟨M.up HB⟩⟩
      · rw [if_neg c9] at H
        have c9b0 : (a3.toList == ([] : List UInt8)) = false := beq_eq_false_iff_ne.mpr c9
        have c9b1 : (a3.toList != ([] : List UInt8)) = true := bne_iff_ne.mpr c9
        (first | rw [c9b0] | (simp only [i64_w, i32_w]; rw [c9b0]) | skip)
        have H' := Aside0.mk H
        clear H
        go_wp2_with (first | ((with_reducible refine gate_callee (f := 25) rfl ?_); refine M.goes (some 17) Try.func25 #[.int .i64 a1, .string a2] rfl ?_; (with_reducible refine (refs_may.calls a1 a2 true _ A7.out).mono ?_); rintro e w' ⟨rfl, ⟨nd, rfl⟩⟩; refine ⟨_, rfl, ?_⟩))
        go_meet
        case rel => exact ⟨_, (false), (by first | rfl | (simp; done) | (simp [*]; done) | (simp [M.isEmpty_bne]; done)), H', ⟨by first | omega | exact Nat.le_refl _⟩, ⟨M.up HB⟩⟩
    · replace c8 := Bool.eq_false_iff.mpr c8
      subst c8
      have H1 : (refs_Set_p.j0 k l0 a1 a2 a3 a4 true) = some (r1, r2) := by rw [if_neg (show ¬ (false = true) by decide)] at H; exact H
      clear H
      have H := H1
      clear H1
      have H' := Aside0.mk H
      clear H
      go_wp2_with (first | ((with_reducible refine gate_callee (f := 25) rfl ?_); refine M.goes (some 17) Try.func25 #[.int .i64 a1, .string a2] rfl ?_; (with_reducible refine (refs_may.calls a1 a2 false _ A7.out).mono ?_); rintro e w' ⟨rfl, ⟨nd, rfl⟩⟩; refine ⟨_, rfl, ?_⟩))
      go_meet
      case rel => exact ⟨_, (true), (by first | rfl | (simp; done) | (simp [*]; done) | (simp [M.isEmpty_bne]; done)), H', ⟨by first | omega | exact Nat.le_refl _⟩, ⟨M.up HB⟩⟩
  case rest =>
    clear HC6
    try clear c1
    try clear c2
    try clear p2
    try clear c8
    try clear c9
    try clear c9b0
    try clear c9b1
    obtain ⟨kq, x26_5, rfl, HA, HJ5, HB⟩ := hcut
    cases kq with
    | zero => exact absurd HA.out (by simp [refs_Set_p.j0])
    | succ kj5 =>
      have H := HA.out
      clear HA
      simp only [refs_Set_p.j0] at H
      by_cases c10 : x26_5 = true
      · subst c10
        have H1 : (some (([] : List (S42)), 2)) = some (r1, r2) := by rw [if_pos rfl] at H; exact H
        clear H
        have H := H1
        clear H1
        simp only [Option.some.injEq, Prod.mk.injEq] at H
        obtain ⟨rfl, rfl⟩ := H
        go_wp2
        go_ret2
        exact ⟨_, by first | rfl | (simp [errW_none, errW_some] <;> rfl) | (simp [*, errW_none, errW_some] <;> rfl), by first | exact Kd.R_nil _ _ _ _ _ | exact Kd.N_nil _ _ _ _ _ | exact Kd.V_nil _ _ _ _ _ | exact Kd.Q_nil _ _ _ _ _ | exact Kd.S_nil _ _ _ _ _, M.up HB⟩
      · replace c10 := Bool.eq_false_iff.mpr c10
        subst c10
        have H1 : ((refs_find.f l0 a1 a2).bind fun bt126 => (if bt126.2 = true then (refs_Set_p.j1 kj5 l0 a1 a2 a3 a4 bt126.1 bt126.2 (a3.toList == ([] : List UInt8))) else (refs_Set_p.j1 kj5 l0 a1 a2 a3 a4 bt126.1 bt126.2 false))) = some (r1, r2) := by rw [if_neg (show ¬ (false = true) by decide)] at H; exact H
        clear H
        have H := H1
        clear H1
        replace H := Option.bind_eq_some_iff.mp H
        obtain ⟨⟨t126, t127⟩, A110, H⟩ := H
        replace H : (if t127 = true then (refs_Set_p.j1 kj5 l0 a1 a2 a3 a4 t126 t127 (a3.toList == ([] : List UInt8))) else (refs_Set_p.j1 kj5 l0 a1 a2 a3 a4 t126 t127 false)) = some (r1, r2) := H
        have A11 := Aside0.mk A110
        clear A110
        have HC12 := Aside0.mk H
        clear H
        go_upto_block 0 with (first | ((with_reducible refine gate_callee (f := 26) rfl ?_); refine M.goes (some 31) Try.func26 #[.slice A0 l0.length c0, .int .i64 a1, .string a2] rfl ?_; (with_reducible refine (refs_find.calls _ _ l0 a1 a2 t126 t127 _ ?side1 ?side2 A11.out).mono ?_); (case side1 => exact M.cB HR0 HB); (case side2 => exact HC0.out); rintro e w13 ⟨rfl, hb⟩; refine ⟨_, rfl, ?_⟩; have n0_ := M.upS HB hb; clear HB; have HB := n0_; clear n0_; (try clear hb)))
        (try simp only [Act.put, List.setIfInBounds_toArray, List.set_cons_zero, List.set_cons_succ])
        go_cut [] (fun wc => ∃ (kq : Nat), Aside0 (refs_Set_p.j4 kq l0 a1 a2 a4 t126 t127 = some (r1, r2)) ∧ Aside0 (kq ≤ kj5) ∧ Aside0 (Below w.heap.size w wc))
        case first =>
          have H := HC12.out
          clear HC12
          have HC14 := Aside0.mk H
          clear H
          go_upto_region 4 with (fail)
          go_cut [34] (fun v34 wc => ∃ (kq : Nat) (x34_13 : Bool), v34 = .bool x34_13 ∧ Aside0 (refs_Set_p.j1 kq l0 a1 a2 a3 a4 t126 t127 x34_13 = some (r1, r2)) ∧ Aside0 (kq ≤ kj5) ∧ Aside0 (Below w.heap.size w wc))
          case first =>
            have H := HC14.out
            clear HC14
            by_cases c15 : t127 = true
            · subst c15
              have H1 : (refs_Set_p.j1 kj5 l0 a1 a2 a3 a4 t126 true (a3.toList == ([] : List UInt8))) = some (r1, r2) := by rw [if_pos rfl] at H; exact H
              clear H
              have H := H1
              clear H1
              have H' := Aside0.mk H
              clear H
              go_wp2
              go_meet
              case rel => exact ⟨_, ((a3.toList == ([] : List UInt8))), (by first | rfl | (simp; done) | (simp [*]; done) | (simp [M.isEmpty_bne]; done)), H', ⟨by have := HJ5.out; first | omega | exact Nat.le_refl _⟩, ⟨M.up HB⟩⟩
            · replace c15 := Bool.eq_false_iff.mpr c15
              subst c15
              have H1 : (refs_Set_p.j1 kj5 l0 a1 a2 a3 a4 t126 false false) = some (r1, r2) := by rw [if_neg (show ¬ (false = true) by decide)] at H; exact H
              clear H
              have H := H1
              clear H1
              have H' := Aside0.mk H
              clear H
              go_wp2
              go_meet
              case rel => exact ⟨_, (false), (by first | rfl | (simp; done) | (simp [*]; done) | (simp [M.isEmpty_bne]; done)), H', ⟨by have := HJ5.out; first | omega | exact Nat.le_refl _⟩, ⟨M.up HB⟩⟩
          case rest =>
            clear HC14
            try clear c1
            try clear c2
            try clear p2
            try clear c8
            try clear c9
            try clear c9b0
            try clear c9b1
            try clear c10
            try clear c15
            try clear p2
            obtain ⟨kq, x34_13, rfl, HA, HJ13, HB⟩ := hcut
            cases kq with
            | zero => exact absurd HA.out (by simp [refs_Set_p.j1])
            | succ kj13 =>
              have H := HA.out
              clear HA
              simp only [refs_Set_p.j1] at H
              by_cases c16 : x34_13 = true
              · subst c16
                have H1 : (some (([] : List (S42)), 10)) = some (r1, r2) := by rw [if_pos rfl] at H; exact H
                clear H
                have H := H1
                clear H1
                simp only [Option.some.injEq, Prod.mk.injEq] at H
                obtain ⟨rfl, rfl⟩ := H
                go_wp2
                go_ret2
                exact ⟨_, by first | rfl | (simp [errW_none, errW_some] <;> rfl) | (simp [*, errW_none, errW_some] <;> rfl), by first | exact Kd.R_nil _ _ _ _ _ | exact Kd.N_nil _ _ _ _ _ | exact Kd.V_nil _ _ _ _ _ | exact Kd.Q_nil _ _ _ _ _ | exact Kd.S_nil _ _ _ _ _, M.up HB⟩
              · replace c16 := Bool.eq_false_iff.mpr c16
                subst c16
                have H1 : (if t127 = true then (refs_Set_p.j2 kj13 l0 a1 a2 a3 a4 t126 t127 false) else (refs_Set_p.j2 kj13 l0 a1 a2 a3 a4 t126 t127 (a3.toList != ([] : List UInt8)))) = some (r1, r2) := by rw [if_neg (show ¬ (false = true) by decide)] at H; exact H
                clear H
                have H := H1
                clear H1
                have HC17 := Aside0.mk H
                clear H
                go_upto_region 6 with (fail)
                go_cut [40] (fun v40 wc => ∃ (kq : Nat) (x40_16 : Bool), v40 = .bool x40_16 ∧ Aside0 (refs_Set_p.j2 kq l0 a1 a2 a3 a4 t126 t127 x40_16 = some (r1, r2)) ∧ Aside0 (kq ≤ kj13) ∧ Aside0 (Below w.heap.size w wc))
                case first =>
                  have H := HC17.out
                  clear HC17
                  by_cases c18 : t127 = true
                  · subst c18
                    have H1 : (refs_Set_p.j2 kj13 l0 a1 a2 a3 a4 t126 true false) = some (r1, r2) := by rw [if_pos rfl] at H; exact H
                    clear H
                    have H := H1
                    clear H1
                    have H' := Aside0.mk H
                    clear H
                    go_wp2
                    go_meet
                    case rel => exact ⟨_, (false), (by first | rfl | (simp; done) | (simp [*]; done) | (simp [M.isEmpty_bne]; done)), H', ⟨by have := HJ5.out; have := HJ13.out; first | omega | exact Nat.le_refl _⟩, ⟨M.up HB⟩⟩
                  · replace c18 := Bool.eq_false_iff.mpr c18
                    subst c18
                    have H1 : (refs_Set_p.j2 kj13 l0 a1 a2 a3 a4 t126 false (a3.toList != ([] : List UInt8))) = some (r1, r2) := by rw [if_neg (show ¬ (false = true) by decide)] at H; exact H
                    clear H
                    have H := H1
                    clear H1
                    have H' := Aside0.mk H
                    clear H
                    go_wp2
                    go_meet
                    case rel => exact ⟨_, ((a3.toList != ([] : List UInt8))), (by first | rfl | (simp; done) | (simp [*]; done) | (simp [M.isEmpty_bne]; done)), H', ⟨by have := HJ5.out; have := HJ13.out; first | omega | exact Nat.le_refl _⟩, ⟨M.up HB⟩⟩
                case rest =>
                  clear HC17
                  try clear c1
                  try clear c2
                  try clear p2
                  try clear c8
                  try clear c9
                  try clear c9b0
                  try clear c9b1
                  try clear c10
                  try clear c15
                  try clear c16
                  try clear c18
                  try clear p2
                  obtain ⟨kq, x40_16, rfl, HA, HJ16, HB⟩ := hcut
                  cases kq with
                  | zero => exact absurd HA.out (by simp [refs_Set_p.j2])
                  | succ kj16 =>
                    have H := HA.out
                    clear HA
                    simp only [refs_Set_p.j2] at H
                    by_cases c19 : x40_16 = true
                    · subst c19
                      have H1 : (some (([] : List (S42)), 9)) = some (r1, r2) := by rw [if_pos rfl] at H; exact H
                      clear H
                      have H := H1
                      clear H1
                      simp only [Option.some.injEq, Prod.mk.injEq] at H
                      obtain ⟨rfl, rfl⟩ := H
                      go_wp2
                      go_ret2
                      exact ⟨_, by first | rfl | (simp [errW_none, errW_some] <;> rfl) | (simp [*, errW_none, errW_some] <;> rfl), by first | exact Kd.R_nil _ _ _ _ _ | exact Kd.N_nil _ _ _ _ _ | exact Kd.V_nil _ _ _ _ _ | exact Kd.Q_nil _ _ _ _ _ | exact Kd.S_nil _ _ _ _ _, M.up HB⟩
                    · replace c19 := Bool.eq_false_iff.mpr c19
                      subst c19
                      have H1 : (if t127 = true then (if 0 ≤ t126 then (if t126 < (l0.length : Int) then (refs_Set_p.j3 kj16 l0 a1 a2 a4 t126 t127 (((rd_T42 l0 t126).f2).toList != a3.toList)) else (none)) else (none)) else (refs_Set_p.j3 kj16 l0 a1 a2 a4 t126 t127 false)) = some (r1, r2) := by rw [if_neg (show ¬ (false = true) by decide)] at H; exact H
                      clear H
                      have H := H1
                      clear H1
                      have HC20 := Aside0.mk H
                      clear H
                      go_upto_region 8 with (fail)
                      go_cut [47] (fun v47 wc => ∃ (kq : Nat) (x47_19 : Bool), v47 = .bool x47_19 ∧ Aside0 (refs_Set_p.j3 kq l0 a1 a2 a4 t126 t127 x47_19 = some (r1, r2)) ∧ Aside0 (kq ≤ kj16) ∧ Aside0 (Below w.heap.size w wc))
                      case first =>
                        have H := HC20.out
                        clear HC20
                        by_cases c21 : t127 = true
                        · subst c21
                          have H1 : (if 0 ≤ t126 then (if t126 < (l0.length : Int) then (refs_Set_p.j3 kj16 l0 a1 a2 a4 t126 true (((rd_T42 l0 t126).f2).toList != a3.toList)) else (none)) else (none)) = some (r1, r2) := by rw [if_pos rfl] at H; exact H
                          clear H
                          have H := H1
                          clear H1
                          by_cases c22 : 0 ≤ t126
                          · rw [if_pos c22] at H
                            have c22b0 : decide (0 ≤ t126) = true := decide_eq_true c22
                            clear c22
                            (first | rw [c22b0] | (simp only [i64_w, i32_w]; rw [c22b0]) | skip)
                            by_cases c23 : t126 < (l0.length : Int)
                            · rw [if_pos c23] at H
                              have c23b0 : decide (t126 < (l0.length : Int)) = true := decide_eq_true c23
                              clear c23
                              have H' := Aside0.mk H
                              clear H
                              have p128 : 0 ≤ (t126 : Int) := of_decide_eq_true (by first | (with_reducible assumption) | assumption)
                              have q128 : t126 < (l0.length : Int) := of_decide_eq_true (by first | (with_reducible assumption) | assumption)
                              obtain ⟨ad128, e128, hx128_0, hx128_1, hx128_2⟩ := at_T42 HR0.out t126 p128 q128
                              cases e128
                              replace hx128_0 := (HB.out.cell (World.block_lt_of_cell? w _ hx128_0)).trans hx128_0
                              replace hx128_1 := (HB.out.cell (World.block_lt_of_cell? w _ hx128_1)).trans hx128_1
                              replace hx128_2 := (HB.out.cell (World.block_lt_of_cell? w _ hx128_2)).trans hx128_2
                              replace p128 := eq_true p128
                              replace q128 := eq_true q128
                              go_wp2
                              go_meet
                              case rel => exact ⟨_, ((((rd_T42 l0 t126).f2).toList != a3.toList)), (by first | rfl | (simp; done) | (simp [*]; done) | (simp [M.isEmpty_bne]; done)), H', ⟨by have := HJ5.out; have := HJ13.out; have := HJ16.out; first | omega | exact Nat.le_refl _⟩, ⟨M.up HB⟩⟩
                            · rw [if_neg c23] at H
                              exact absurd H (by simp)
                          · rw [if_neg c22] at H
                            exact absurd H (by simp)
                        · replace c21 := Bool.eq_false_iff.mpr c21
                          subst c21
                          have H1 : (refs_Set_p.j3 kj16 l0 a1 a2 a4 t126 false false) = some (r1, r2) := by rw [if_neg (show ¬ (false = true) by decide)] at H; exact H
                          clear H
                          have H := H1
                          clear H1
                          have H' := Aside0.mk H
                          clear H
                          go_wp2
                          go_meet
                          case rel => exact ⟨_, (false), (by first | rfl | (simp; done) | (simp [*]; done) | (simp [M.isEmpty_bne]; done)), H', ⟨by have := HJ5.out; have := HJ13.out; have := HJ16.out; first | omega | exact Nat.le_refl _⟩, ⟨M.up HB⟩⟩
                      case rest =>
                        clear HC20
                        try clear c1
                        try clear p1
                        try clear q1
                        try clear hx1
                        try clear c2
                        try clear p2
                        try clear c8
                        try clear c9
                        try clear c9b0
                        try clear c9b1
                        try clear c10
                        try clear p12
                        try clear q12
                        try clear hx12
                        try clear c15
                        try clear c16
                        try clear c18
                        try clear c19
                        try clear c21
                        try clear c22
                        try clear c22b0
                        try clear c23
                        try clear c23b0
                        try clear hx128_0
                        try clear hx128_1
                        try clear hx128_2
                        try clear p128
                        try clear p2
                        try clear q128
                        obtain ⟨kq, x47_19, rfl, HA, HJ19, HB⟩ := hcut
                        cases kq with
                        | zero => exact absurd HA.out (by simp [refs_Set_p.j3])
                        | succ kj19 =>
                          have H := HA.out
                          clear HA
                          simp only [refs_Set_p.j3] at H
                          by_cases c24 : x47_19 = true
                          · subst c24
                            have H1 : (some (([] : List (S42)), 12)) = some (r1, r2) := by rw [if_pos rfl] at H; exact H
                            clear H
                            have H := H1
                            clear H1
                            simp only [Option.some.injEq, Prod.mk.injEq] at H
                            obtain ⟨rfl, rfl⟩ := H
                            go_wp2
                            go_ret2
                            exact ⟨_, by first | rfl | (simp [errW_none, errW_some] <;> rfl) | (simp [*, errW_none, errW_some] <;> rfl), by first | exact Kd.R_nil _ _ _ _ _ | exact Kd.N_nil _ _ _ _ _ | exact Kd.V_nil _ _ _ _ _ | exact Kd.Q_nil _ _ _ _ _ | exact Kd.S_nil _ _ _ _ _, M.up HB⟩
                          · replace c24 := Bool.eq_false_iff.mpr c24
                            subst c24
                            have H1 : (if t127 = true then (refs_Set_p.j4 kj19 l0 a1 a2 a4 t126 t127) else (if (l0.length : Int) ≥ 64 then (some (([] : List (S42)), 5)) else (refs_Set_p.j4 kj19 l0 a1 a2 a4 t126 t127))) = some (r1, r2) := by rw [if_neg (show ¬ (false = true) by decide)] at H; exact H
                            clear H
                            have H := H1
                            clear H1
                            by_cases c25 : t127 = true
                            · subst c25
                              have H1 : (refs_Set_p.j4 kj19 l0 a1 a2 a4 t126 true) = some (r1, r2) := by rw [if_pos rfl] at H; exact H
                              clear H
                              have H := H1
                              clear H1
                              have H' := Aside0.mk H
                              clear H
                              go_wp2
                              go_meet
                              case rel => exact ⟨_, H', ⟨by have := HJ5.out; have := HJ13.out; have := HJ16.out; have := HJ19.out; first | omega | exact Nat.le_refl _⟩, ⟨M.up HB⟩⟩
                            · replace c25 := Bool.eq_false_iff.mpr c25
                              subst c25
                              have H1 : (if (l0.length : Int) ≥ 64 then (some (([] : List (S42)), 5)) else (refs_Set_p.j4 kj19 l0 a1 a2 a4 t126 false)) = some (r1, r2) := by rw [if_neg (show ¬ (false = true) by decide)] at H; exact H
                              clear H
                              have H := H1
                              clear H1
                              by_cases c26 : (l0.length : Int) ≥ 64
                              · rw [if_pos c26] at H
                                have c26b0 : decide (64 ≤ (l0.length : Int)) = true := decide_eq_true c26
                                have c26b1 : decide (64 ≤ l0.length) = true := decide_eq_true (by omega)
                                clear c26
                                simp only [Option.some.injEq, Prod.mk.injEq] at H
                                obtain ⟨rfl, rfl⟩ := H
                                go_wp2
                                go_ret2
                                exact ⟨_, by first | rfl | (simp [errW_none, errW_some] <;> rfl) | (simp [*, errW_none, errW_some] <;> rfl), by first | exact Kd.R_nil _ _ _ _ _ | exact Kd.N_nil _ _ _ _ _ | exact Kd.V_nil _ _ _ _ _ | exact Kd.Q_nil _ _ _ _ _ | exact Kd.S_nil _ _ _ _ _, M.up HB⟩
                              · rw [if_neg c26] at H
                                have c26b0 : decide (64 ≤ (l0.length : Int)) = false := decide_eq_false c26
                                have c26b1 : decide (64 ≤ l0.length) = false := decide_eq_false (by omega)
                                clear c26
                                have H' := Aside0.mk H
                                clear H
                                go_wp2
                                go_meet
                                case rel => exact ⟨_, H', ⟨by have := HJ5.out; have := HJ13.out; have := HJ16.out; have := HJ19.out; first | omega | exact Nat.le_refl _⟩, ⟨M.up HB⟩⟩
        case rest =>
          clear HC12
          try clear c1
          try clear p1
          try clear q1
          try clear hx1
          try clear c2
          try clear p2
          try clear c8
          try clear c9
          try clear c9b0
          try clear c9b1
          try clear c10
          try clear p12
          try clear q12
          try clear hx12
          try clear c15
          try clear c16
          try clear c18
          try clear c19
          try clear c21
          try clear c22
          try clear c22b0
          try clear c23
          try clear c23b0
          try clear c24
          try clear c25
          try clear c26
          try clear c26b0
          try clear c26b1
          try clear hx128_0
          try clear hx128_1
          try clear hx128_2
          try clear p1
          try clear p12
          try clear p128
          try clear p2
          try clear q1
          try clear q12
          try clear q128
          obtain ⟨kq, HA, HJ11, HB⟩ := hcut
          cases kq with
          | zero => exact absurd HA.out (by simp [refs_Set_p.j4])
          | succ kj11 =>
            have H := HA.out
            clear HA
            simp only [refs_Set_p.j4] at H
            replace H := Option.bind_eq_some_iff.mp H
            obtain ⟨t129, A270, H⟩ := H
            replace H : (if a4.toList = ([] : List UInt8) then ((api_Ref_28.f t129 t126 (wrap64 (t126 + 1))).bind fun t132 => (some (t132, 0))) else (if t127 = true then (if 0 ≤ t126 then (if t126 < (t129.length : Int) then (some ((t129.set (t126 : Int).toNat (⟨(rd_T42 t129 t126).f0, (rd_T42 t129 t126).f1, a4⟩ : S42)), 0)) else (none)) else (none)) else ((api_Ref_29.f t129 t126 (([(⟨a1, a2, a4⟩ : S42)] : List (S42)))).bind fun t139 => (some (t139, 0))))) = some (r1, r2) := H
            have A27 := Aside0.mk A270
            clear A270
            by_cases c28 : a4.toList = ([] : List UInt8)
            · rw [if_pos c28] at H
              have c28b0 : (a4.toList == ([] : List UInt8)) = true := beq_iff_eq.mpr c28
              have c28b1 : (a4.toList != ([] : List UInt8)) = false := bne_eq_false_iff_eq.mpr c28
              clear c28
              replace H := Option.bind_eq_some_iff.mp H
              obtain ⟨t132, A290, H⟩ := H
              replace H : (some (t132, 0)) = some (r1, r2) := H
              have A29 := Aside0.mk A290
              clear A290
              simp only [Option.some.injEq, Prod.mk.injEq] at H
              obtain ⟨rfl, rfl⟩ := H
              go_wp2_with (first | ((with_reducible refine gate_callee (f := 27) rfl ?_); refine M.goes (some 67) Try.func27 #[.slice A0 l0.length c0] rfl ?_; (with_reducible refine (api_Ref_27.calls _ _ l0 t129 _ ?side1 ?side2 A27.out).mono ?_); (case side1 => exact M.cB HR0 HB); (case side2 => exact HC0.out); rintro e w30 ⟨v130, rfl, ho0, hb⟩; refine ⟨_, rfl, ?_⟩; have n0_ := Aside0.mk (Kd.R_lower ho0 (below_size (M.up HB))); have n1_ := M.upS HB hb; clear HB; have HO131 := n0_; have HB := n1_; clear n0_ n1_; (try clear hb); (try clear ho0); obtain ⟨Ao31, co31, eo31⟩ := Kd.R_slice HO131.out; subst eo31) | ((with_reducible refine gate_callee (f := 28) rfl ?_); refine M.goes (some 83) Try.func28 #[.slice Ao31 t129.length co31, .int .i64 t126, .int .i64 (wrap64 (t126 + 1))] rfl ?_; (with_reducible refine (api_Ref_28.own (M.up HB) (M.ro HO131) A29.out).mono ?_); rintro e w32 ⟨v133, rfl, ho0, hb⟩; refine ⟨_, rfl, ?_⟩; clear HO131 HB; have HO134 := Aside0.mk ho0; have HB := Aside0.mk hb; clear ho0 hb))
              go_ret2
              exact ⟨_, by first | rfl | (simp [errW_none, errW_some] <;> rfl) | (simp [*, errW_none, errW_some] <;> rfl), by (with_reducible repeat (first | apply Kd.R_alloc | apply Kd.R_drewN | apply Kd.R_drew)); exact Kd.R_mono HO134.out (fun _ hk => trivial), M.up HB⟩
            · rw [if_neg c28] at H
              have c28b0 : (a4.toList == ([] : List UInt8)) = false := beq_eq_false_iff_ne.mpr c28
              have c28b1 : (a4.toList != ([] : List UInt8)) = true := bne_iff_ne.mpr c28
              by_cases c33 : t127 = true
              · subst c33
                have H1 : (if 0 ≤ t126 then (if t126 < (t129.length : Int) then (some ((t129.set (t126 : Int).toNat (⟨(rd_T42 t129 t126).f0, (rd_T42 t129 t126).f1, a4⟩ : S42)), 0)) else (none)) else (none)) = some (r1, r2) := by rw [if_pos rfl] at H; exact H
                clear H
                have H := H1
                clear H1
                by_cases c34 : 0 ≤ t126
                · rw [if_pos c34] at H
                  have c34b0 : decide (0 ≤ t126) = true := decide_eq_true c34
                  clear c34
                  by_cases c35 : t126 < (t129.length : Int)
                  · rw [if_pos c35] at H
                    have c35b0 : decide (t126 < (t129.length : Int)) = true := decide_eq_true c35
                    clear c35
                    obtain ⟨y135, hy135⟩ : ∃ y_ : List (S42), y_ = (t129.set (t126 : Int).toNat (⟨(rd_T42 t129 t126).f0, (rd_T42 t129 t126).f1, a4⟩ : S42)) := ⟨_, rfl⟩
                    replace H : (some (y135, 0)) = some (r1, r2) := by first | (rw [hy135]; with_reducible exact H) | (have H2_ := (Option.bind_some _ _).symm.trans H; rw [hy135]; with_reducible exact H2_) | (have H2_ := (Option.bind_some _ _).symm.trans H; with_reducible exact H2_) | with_reducible exact H | (rw [hy135]; exact H) | exact H
                    have Ny135 := Aside0.mk hy135
                    clear hy135
                    simp only [Option.some.injEq, Prod.mk.injEq] at H
                    obtain ⟨rfl, rfl⟩ := H
                    go_wp2_with (first | ((with_reducible refine gate_callee (f := 27) rfl ?_); refine M.goes (some 67) Try.func27 #[.slice A0 l0.length c0] rfl ?_; (with_reducible refine (api_Ref_27.calls _ _ l0 t129 _ ?side1 ?side2 A27.out).mono ?_); (case side1 => exact M.cB HR0 HB); (case side2 => exact HC0.out); rintro e w37 ⟨v130, rfl, ho0, hb⟩; refine ⟨_, rfl, ?_⟩; have n0_ := Aside0.mk (Kd.R_lower ho0 (below_size (M.up HB))); have n1_ := M.upS HB hb; clear HB; have HO131 := n0_; have HB := n1_; clear n0_ n1_; (try clear hb); (try clear ho0); have p36 : 0 ≤ (t126 : Int) := of_decide_eq_true (by first | (with_reducible assumption) | assumption); have q36 : (t126 : Int) < ((t129.length : Int) : Int) := of_decide_eq_true (by first | (with_reducible assumption) | assumption); obtain ⟨go36, co36, eo36, gb36, gl36, cl36, HG36⟩ := Kd.R_form HO131.out (by omega); (first | cases eo36 | (injection eo36 with ea_ en_ ec_; (first | subst ea_ | (injection ea_ with ea_; subst ea_)); subst ec_; clear en_)); have GB36 := Aside0.mk gb36; have GG36 := Aside0.mk HG36; clear gb36 gl36 HG36; obtain ⟨ce36, hcl36, hM36, hcc36, hfr36⟩ := Kd.R_elem HO131.out z42 (t126 : Int) p36 q36; obtain rfl := k42_openM hM36; have hx36_0 : w37.cell? ⟨go36, (t126 : Int).toNat * 3, none⟩ = some (.int .i64 ((rd_T42 t129 t126).f0)) := hcc36 0 _ rfl; have hx36_1 : w37.cell? ⟨go36, (t126 : Int).toNat * 3 + 1, none⟩ = some (.string ((rd_T42 t129 t126).f1)) := hcc36 1 _ rfl; have hx36_2 : w37.cell? ⟨go36, (t126 : Int).toNat * 3 + 2, none⟩ = some (.string ((rd_T42 t129 t126).f2)) := hcc36 2 _ rfl; have hf36_0 : w37.frozen? ⟨go36, (t126 : Int).toNat * 3, none⟩ = false := hfr36 0; have hf36_1 : w37.frozen? ⟨go36, (t126 : Int).toNat * 3 + 1, none⟩ = false := hfr36 1; have hf36_2 : w37.frozen? ⟨go36, (t126 : Int).toNat * 3 + 2, none⟩ = false := hfr36 2; clear hcl36 hcc36 hfr36 hM36; replace p36 := eq_true p36; replace q36 := eq_true q36; have HX38 := Aside0.mk (show Kd.R k42 42 w37 w.heap.size (fun _ => True) (.slice (some ⟨go36, 0, none⟩) t129.length co36) t129 from (M.ro HO131)); obtain ⟨ce38, hcl38, hM38, hcc38, hfr38⟩ := Kd.R_elem HX38.out z42 (t126 : Int) (of_decide_eq_true (by first | (with_reducible assumption) | assumption)) (by have h_ : (t126 : Int) < ((t129.length : Int) : Int) := of_decide_eq_true (by first | (with_reducible assumption) | assumption); first | exact h_ | (have e_ := (Kd.R_reads' HO131.out).1; omega) | simpa using h_); obtain rfl := k42_openM hM38; have HP38 := Kd.R_seg HX38.out (t126 : Int) (of_decide_eq_true (by first | (with_reducible assumption) | assumption)) (by have h_ : (t126 : Int) < ((t129.length : Int) : Int) := of_decide_eq_true (by first | (with_reducible assumption) | assumption); first | exact h_ | (have e_ := (Kd.R_reads' HO131.out).1; omega) | simpa using h_) (seg := [.string a4]) (j := 2) hcl38 hcc38 (show 3 ≤ 3 from by decide) (x' := (⟨(rd_T42 t129 t126).f0, (rd_T42 t129 t126).f1, a4⟩ : S42)) (k42_mkM _ _ _ (⟨(rd_T42 t129 t126).f0, (rd_T42 t129 t126).f1, a4⟩ : S42) ) (fun _ hk => hk); have hx38_2 := hcc38 2 _ rfl; (try simp only [show (k42).sz = 3 from rfl, Nat.mul_one, Nat.add_zero] at hx38_2); have hf38_2 := hfr38 2; (try simp only [show (k42).sz = 3 from rfl, Nat.mul_one, Nat.add_zero] at hf38_2); clear hcl38 hcc38 hfr38 hM38) | ((with_reducible refine gate_store (t := 9) (p := 90) rfl ?_); refine store_event (t := 9) (p := 90) (v := ?vo_w39) (w1 := (w37.setCell ⟨go36, (t126 : Int).toNat * 3 + 2, none⟩ (.string a4))) ?hg ?ho ?hn ?hr ?_; (case ho => rfl); (case hg => rfl); (case hn => rfl); (case hr => first | (go_simp; done) | (go_simp; rfl)); intro w39 hw; have hg : w37.grownBy w39 (some go36) := (by rw [hw]; exact HP38.2); have hp_ : Kd.R k42 42 w39 w.heap.size (fun _ => True) (.slice (some ⟨go36, 0, none⟩) t129.length co36) y135 := (by rw [hw, Ny135.out]; exact HP38.1); clear HP38; have n0_ := Aside0.mk (hp_); have n1_ := Aside0.mk ((by rw [hw]; exact below_set (HB.out) GB36.out : Below w.heap.size w w39)); clear HO131 HB; have HO131 := n0_; have HB := n1_; clear n0_ n1_; clear hg hw hp_))
                    go_ret2
                    exact ⟨_, by first | rfl | (simp [errW_none, errW_some] <;> rfl) | (simp [*, errW_none, errW_some] <;> rfl), by (with_reducible repeat (first | apply Kd.R_alloc | apply Kd.R_drewN | apply Kd.R_drew)); exact HO131.out, M.up HB⟩
                  · rw [if_neg c35] at H
                    exact absurd H (by simp)
                · rw [if_neg c34] at H
                  exact absurd H (by simp)
              · replace c33 := Bool.eq_false_iff.mpr c33
                subst c33
                have H1 : ((api_Ref_29.f t129 t126 (([(⟨a1, a2, a4⟩ : S42)] : List (S42)))).bind fun t139 => (some (t139, 0))) = some (r1, r2) := by rw [if_neg (show ¬ (false = true) by decide)] at H; exact H
                clear H
                have H := H1
                clear H1
                obtain ⟨y136, hy136⟩ : ∃ y_ : List (S42), y_ = (([(⟨a1, a2, a4⟩ : S42)] : List (S42))) := ⟨_, rfl⟩
                replace H : ((api_Ref_29.f t129 t126 y136).bind fun t139 => (some (t139, 0))) = some (r1, r2) := by first | (rw [hy136]; with_reducible exact H) | (have H2_ := (Option.bind_some _ _).symm.trans H; rw [hy136]; with_reducible exact H2_) | (have H2_ := (Option.bind_some _ _).symm.trans H; with_reducible exact H2_) | with_reducible exact H | (rw [hy136]; exact H) | exact H
                have Ny136 := Aside0.mk hy136
                clear hy136
                replace H := Option.bind_eq_some_iff.mp H
                obtain ⟨t139, A400, H⟩ := H
                replace H : (some (t139, 0)) = some (r1, r2) := H
                have A40 := Aside0.mk A400
                clear A400
                simp only [Option.some.injEq, Prod.mk.injEq] at H
                obtain ⟨rfl, rfl⟩ := H
                go_wp2_with (first | ((with_reducible refine gate_callee (f := 27) rfl ?_); refine M.goes (some 67) Try.func27 #[.slice A0 l0.length c0] rfl ?_; (with_reducible refine (api_Ref_27.calls _ _ l0 t129 _ ?side1 ?side2 A27.out).mono ?_); (case side1 => exact M.cB HR0 HB); (case side2 => exact HC0.out); rintro e w41 ⟨v130, rfl, ho0, hb⟩; refine ⟨_, rfl, ?_⟩; have n0_ := Aside0.mk (Kd.R_lower ho0 (below_size (M.up HB))); have n1_ := M.upS HB hb; clear HB; have HO131 := n0_; have HB := n1_; clear n0_ n1_; (try clear hb); (try clear ho0)) | ((with_reducible refine gate_dst (N := 74) rfl ?_); (try (refine gate_guard (by rfl) ?_; dsimp only)); refine Kd.R_lit k42 _ 42 ?hg (N := 74) ?hd (xs := ([(⟨a1, a2, a4⟩ : S42)] : List (S42))) (inner := [.int .i64 a1, .string a2, .string a4]) (ok := fun _ => True) (okp := fun _ => True) ?hr ?hp (fun _ hk => hk) trivial (Below.refl _ _) (Nat.le_refl _) (by simp) ?_; (case hd => rfl); (case hg => rfl); (case hr => first | (go_simp; done) | (go_simp; rfl)); (case hp => exact (Reps.c3 (show Kd.M k42 _ _ _ (⟨a1, a2, a4⟩ : S42) [.int .i64 a1, .string a2, .string a4] from (k42_mkM _ _ _ (⟨a1, a2, a4⟩ : S42) )) (Reps.none _ _))); intro v137 w42 ho43 hb hg_ hnew_; clear hg_ hnew_; (first | rw [← Ny136.out] at ho43 | (simp only [Int.reduceToNat] at ho43; rw [← Ny136.out] at ho43)); have n0_ := Aside0.mk (Kd.R_elder' (M.ro HO131) (Kd.R_base ho43) hb); have n1_ := Aside0.mk (Kd.R_lower (Kd.R_new' ho43 (Kd.R_lt (M.ro HO131))) (below_size (M.up HB))); have n2_ := M.upS HB hb; clear HO131 HB; have HO131 := n0_; have HO138 := n1_; have HB := n2_; clear n0_ n1_ n2_; clear hb ho43; obtain ⟨Ao44, co44, eo44⟩ := Kd.R_slice HO131.out; subst eo44; obtain ⟨Ao45, co45, eo45⟩ := Kd.R_slice HO138.out; subst eo45) | ((with_reducible refine gate_callee (f := 29) rfl ?_); refine M.goes (some 75) Try.func29 #[.slice Ao44 t129.length co44, .int .i64 t126, .slice Ao45 y136.length co45] rfl ?_; (with_reducible refine (api_Ref_29.own (M.up HB) (M.ro HO131) (M.ro HO138) A40.out).mono ?_); rintro e w46 ⟨v140, rfl, ho0, hb⟩; refine ⟨_, rfl, ?_⟩; clear HO131 HO138 HB; have HO141 := Aside0.mk ho0; have HB := Aside0.mk hb; clear ho0 hb))
                go_ret2
                exact ⟨_, by first | rfl | (simp [errW_none, errW_some] <;> rfl) | (simp [*, errW_none, errW_some] <;> rfl), by (with_reducible repeat (first | apply Kd.R_alloc | apply Kd.R_drewN | apply Kd.R_drew)); exact Kd.R_mono HO141.out (fun _ hk => trivial), M.up HB⟩

-- this session's own plain form
def refs_Set.f (l0 : List S42) (a1 : Int) (a2 a3 a4 : ByteArray) : Option ((List S42) × Int) := if M.wr S42.f0 S42.f1 S42.f2 l0 = 0 ∧ a2.size ≤ 9223372036854775807 then some (M.rset S42.f0 S42.f1 S42.f2 S42.mk l0 a1 a2 a3 a4) else none
/-- What find tells of refs that may be. -/
theorem refs_Set.found (l : List S42) (k : Int) (s : ByteArray) (hh : M.wr S42.f0 S42.f1 S42.f2 l = 0) : ∃ A B : List S42, A = l.filter (M.rless_ S42.f0 S42.f1 k s) ∧ B = l.filter (M.rmore S42.f0 S42.f1 k s) ∧
    ((l = A ++ B ∧ M.rget S42.f0 S42.f1 S42.f2 l k s = ⟨#[]⟩ ∧ refs_find.f l k s = some ((A.length : Int), false)) ∨
     ∃ x, l = A ++ x :: B ∧ x.f0 = k ∧ x.f1 = s ∧ x.f2 ≠ ⟨#[]⟩ ∧ M.rget S42.f0 S42.f1 S42.f2 l k s = x.f2 ∧ refs_find.f l k s = some ((A.length : Int), true)) := by
  obtain ⟨h64, hok, hp⟩ := (M.wr_zero S42.f0 S42.f1 S42.f2 l).1 hh
  obtain ⟨mid, e1, e2, e3⟩ := M.rsplit S42.f0 S42.f1 k s l hp
  obtain ⟨A, hA⟩ : ∃ A, A = l.filter (M.rless_ S42.f0 S42.f1 k s) := ⟨_, rfl⟩
  obtain ⟨B, hB⟩ : ∃ B, B = l.filter (M.rmore S42.f0 S42.f1 k s) := ⟨_, rfl⟩
  have hBm : ∀ x ∈ B, M.rless k s x.f0 x.f1 := fun x hx => by rw [hB] at hx; exact of_decide_eq_true (List.mem_filter.1 hx).2
  refine ⟨A, B, hA, hB, ?_⟩
  rw [← hA, ← hB] at e1
  rw [← hA] at e2
  have hpp : refs_find.p l k s = A.length := by unfold refs_find.p; rw [← e2]; rfl
  unfold M.rget refs_find.f
  rw [hpp]
  rcases e3 with ⟨rfl, e3⟩ | ⟨x, rfl, x1, x2, e3⟩
  · rw [List.append_nil] at e1
    have hd : l.drop A.length = B := by rw [e1, List.drop_left]
    have hm : refs_find.met l k s A.length = false := by
      unfold refs_find.met
      refine decide_eq_false ?_
      rintro ⟨z1, z2⟩
      have hz := (M.rcmp_zero _ _ _ _).1 z2
      have hmem : rd_T42 l (A.length : Int) ∈ B := by
        have : rd_T42 l (A.length : Int) = l[A.length] := by unfold rd_T42; simp [z1]
        rw [this, ← hd]
        exact List.mem_drop_iff_getElem.2 ⟨0, by omega, by simp⟩
      have := hBm _ hmem
      rw [hz.1, hz.2] at this
      exact M.rless_irrefl _ _ this
    refine .inl ⟨e1, by rw [e3]; rfl, ?_⟩
    rw [if_pos ⟨by omega, by rw [hd]; exact fun x hx => M.rless_asymm (hBm x hx)⟩, hm]
  · have hd : l.drop A.length = x :: B := by rw [e1, List.append_assoc, List.drop_left]; rfl
    have hlt : A.length < l.length := by
      have := congrArg List.length hd
      rw [List.length_drop, List.length_cons] at this; omega
    have hrd : rd_T42 l (A.length : Int) = x := by
      have h1 : rd_T42 l (A.length : Int) = l[A.length] := by unfold rd_T42; simp [hlt]
      rw [List.drop_eq_getElem_cons hlt] at hd
      rw [h1]; exact (List.cons.inj hd).1
    have hm : refs_find.met l k s A.length = true := by
      unfold refs_find.met
      rw [hrd]
      exact decide_eq_true ⟨hlt, (M.rcmp_zero _ _ _ _).2 ⟨x1, x2⟩⟩
    have hx2 : x.f2 ≠ ⟨#[]⟩ := fun z => (hok x (List.mem_of_find?_eq_some e3)).2.2 (M.text_none.2 z)
    refine .inr ⟨x, by rw [e1, List.append_assoc]; rfl, x1, x2, hx2, by rw [e3]; rfl, ?_⟩
    rw [if_pos ⟨by omega, by
      rw [hd]
      intro y hy
      rcases List.mem_cons.1 hy with rfl | hy
      · rw [x1, x2]; exact M.rless_irrefl _ _
      · exact M.rless_asymm (hBm y hy)⟩, hm]
theorem refs_Set.ev (l : List S42) (k : Int) (s old now : ByteArray) (r : (List S42) × Int) (h : refs_Set.f l k s old now = some r) : ∃ n, refs_Set_p.f n l k s old now = some r := by
  unfold refs_Set.f at h
  split at h
  case isFalse => cases h
  case isTrue hh =>
    obtain ⟨hw, hs⟩ := hh
    obtain rfl := Option.some.inj h
    have h64 := ((M.wr_zero S42.f0 S42.f1 S42.f2 l).1 hw).1
    obtain ⟨A, B, hA, hB, hcase⟩ := refs_Set.found l k s hw
    refine ⟨10, ?_⟩
    have m : refs_may.f k s = some (decide ((k = 1 ∨ k = 2) ∧ M.isName s = true)) := by unfold refs_may.f; rw [if_pos hs]
    have h2 : ∀ n, refs_Set_p.j0 (n + 1) l k s old now true = some ([], 2) := fun n => by rw [refs_Set_p.j0, if_pos rfl]
    have hcl : api_Ref_27.f l = some l := by unfold api_Ref_27.f; rw [if_pos (by omega)]
    have hbad : ¬ ((k = 1 ∨ k = 2) ∧ M.isName s = true) ∨ (old = ⟨#[]⟩ ∧ now = ⟨#[]⟩) → M.rset S42.f0 S42.f1 S42.f2 S42.mk l k s old now = ([], 2) := fun z => by unfold M.rset; rw [if_pos z]
    have hj : ((k = 1 ∨ k = 2) ∧ M.isName s = true) → ¬ (old = ⟨#[]⟩ ∧ now = ⟨#[]⟩) → refs_Set_p.j0 10 l k s old now false = some (M.rset S42.f0 S42.f1 S42.f2 S42.mk l k s old now) := by
      intro c1 c2
      have c0 : ¬ (¬ ((k = 1 ∨ k = 2) ∧ M.isName s = true) ∨ (old = ⟨#[]⟩ ∧ now = ⟨#[]⟩)) := fun z => z.elim (fun z => z c1) c2
      rw [refs_Set_p.j0, if_neg (by decide)]
      unfold M.rset
      rw [if_neg c0, ← hA, ← hB]
      rcases hcase with ⟨el, eg, ef⟩ | ⟨x, el, x1, x2, x3, eg, ef⟩
      · -- there is none
        rw [ef, Option.bind_some, if_neg (by simp), refs_Set_p.j1, if_neg (by simp), if_neg (by simp), eg]
        by_cases c3 : old = ⟨#[]⟩
        · have hn : now ≠ ⟨#[]⟩ := fun z => c2 ⟨c3, z⟩
          rw [show (old.toList != ([] : List UInt8)) = false by rw [M.text_none.2 c3]; rfl, refs_Set_p.j2, if_neg (by simp), if_neg (by simp), refs_Set_p.j3, if_neg (by simp), if_neg (by simp), if_pos c3.symm]
          by_cases c4 : 64 ≤ l.length
          · rw [if_pos (by omega), if_pos ⟨c3, c4⟩]
          · rw [if_neg (by omega), if_neg (fun z => c4 z.2), refs_Set_p.j4, hcl, Option.bind_some, if_neg (fun z => hn (M.text_none.1 z)), if_neg (by simp), if_neg hn]
            have hal : A.length ≤ l.length := by rw [el, List.length_append]; omega
            unfold api_Ref_29.f
            rw [if_pos ⟨by omega, by omega, by omega, rfl⟩, Option.bind_some, Int.toNat_natCast]
            have t1 : l.take A.length = A := by rw [el, List.take_left]
            have t2 : l.drop A.length = B := by rw [el, List.drop_left]
            rw [t1, t2]
        · have c3' : ¬ (⟨#[]⟩ : ByteArray) = old := fun z => c3 z.symm
          rw [show (old.toList != ([] : List UInt8)) = true from bne_iff_ne.2 (fun z => c3 (M.text_none.1 z)), refs_Set_p.j2, if_pos rfl, if_neg c3', if_neg c3, if_pos rfl]
      · -- there is one
        have hal : A.length < l.length := by rw [el, List.length_append, List.length_cons]; omega
        have hrd : rd_T42 l (A.length : Int) = x := by unfold rd_T42; rw [Int.toNat_natCast, el]; simp
        rw [ef, Option.bind_some, if_pos rfl, refs_Set_p.j1, eg]
        by_cases c3 : old = ⟨#[]⟩
        · have c3' : ¬ x.f2 = old := fun z => x3 (z.trans c3)
          rw [show (old.toList == ([] : List UInt8)) = true by rw [M.text_none.2 c3]; rfl, if_pos rfl, if_neg c3', if_pos c3]
        · rw [show (old.toList == ([] : List UInt8)) = false from beq_eq_false_iff_ne.2 (fun z => c3 (M.text_none.1 z)), if_neg (by decide), if_pos rfl, refs_Set_p.j2, if_neg (by decide), if_pos rfl, if_pos (by omega), if_pos (by omega), refs_Set_p.j3, hrd]
          by_cases c4 : x.f2 = old
          · have c5 : ¬ (old = ⟨#[]⟩ ∧ 64 ≤ l.length) := fun z => c3 z.1
            rw [show (x.f2.toList != old.toList) = false by rw [c4]; exact bne_self_eq_false _, if_neg (by decide), if_pos rfl, if_pos c4, if_neg c5, refs_Set_p.j4, hcl, Option.bind_some]
            by_cases c6 : now = ⟨#[]⟩
            · rw [if_pos (M.text_none.2 c6), if_pos c6, M.wrap64_id (by omega) (by omega)]
              unfold api_Ref_28.f
              rw [if_pos ⟨by omega, by omega, rfl⟩, Option.bind_some, Int.toNat_natCast]
              have t1 : l.take A.length = A := by rw [el, List.take_left]
              have t2 : l.drop (A.length + 1) = B := by rw [el, ← List.drop_drop, List.drop_left]; rfl
              rw [t1, t2, List.append_nil]
            · rw [if_neg (fun z => c6 (M.text_none.1 z)), if_neg c6, if_pos rfl, if_pos (by omega), if_pos (by omega), hrd, x1, x2, Int.toNat_natCast]
              have t3 : l.set A.length ⟨k, s, now⟩ = A ++ ⟨k, s, now⟩ :: B := by rw [el, List.set_append_right _ _ (Nat.le_refl _), Nat.sub_self]; rfl
              rw [t3, List.append_assoc]; rfl
          · have c5 : ¬ (x.f2 = ⟨#[]⟩) := x3
            rw [show (x.f2.toList != old.toList) = true from bne_iff_ne.2 (fun z => c4 (M.text_inj.1 z)), if_pos rfl, if_neg c4, if_neg c3, if_neg c5]
    unfold refs_Set_p.f
    rw [m, Option.bind_some]
    by_cases b3 : (k = 1 ∨ k = 2) ∧ M.isName s = true
    · rw [if_pos (decide_eq_true b3)]
      by_cases b4 : old = ⟨#[]⟩
      · rw [if_pos (M.text_none.2 b4)]
        by_cases b5 : now = ⟨#[]⟩
        · rw [M.text_none.2 b5, show (([] : List UInt8) == []) = true from rfl, h2, hbad (.inr ⟨b4, b5⟩)]
        · rw [show (now.toList == ([] : List UInt8)) = false from beq_eq_false_iff_ne.2 (fun z => b5 (M.text_none.1 z)), hj b3 (fun z => b5 z.2)]
      · rw [if_neg (fun z => b4 (M.text_none.1 z)), hj b3 (fun z => b4 z.1)]
    · rw [if_neg (by simpa using b3), h2, hbad (.inl b3)]
theorem refs_Set.calls (A0 : Option Addr) (c0 : Nat) (l0 : List (S42)) (a1 : Int) (a2 : ByteArray) (a3 : ByteArray) (a4 : ByteArray) (r1 : List (S42)) (r2 : Int) (w : World) (hr0 : Kd.C k42 w A0 l0.length l0) (hc0 : l0.length ≤ c0) (h : refs_Set.f l0 a1 a2 a3 a4 = some (r1, r2)) :
    Calls Try.prog 10 #[.slice A0 l0.length c0, .int .i64 a1, .string a2, .string a3, .string a4] w fun e w' => ∃ v0_ : Value, e = .returned (.tuple #[v0_, .int .i64 r2]) ∧ Kd.R k42 42 w' w.heap.size (fun _ => True) v0_ r1 ∧ Below w.heap.size w w' := by
  obtain ⟨k, hk⟩ := refs_Set.ev _ _ _ _ _ _ h
  exact refs_Set_p.calls (k := k) (w := w) (h := hk) (hr0 := hr0) (hc0 := hc0)

/-! ### pleachlaw37_awake: function 9 -/
def pleachlaw37_awake.f  : Option (Bool) := (refs_Set.f ([] : List (S42)) 1 (⟨#[97]⟩ : ByteArray) (⟨#[]⟩ : ByteArray) (⟨#[120]⟩ : ByteArray)).bind fun bt142 => ((refs_Set.f bt142.1 1 (⟨#[97]⟩ : ByteArray) (⟨#[]⟩ : ByteArray) (⟨#[121]⟩ : ByteArray)).bind fun bt146 => (if (bt142.1.length : Int) = 1 then (if bt142.2 = 0 then (some (bt146.2 == 10)) else (some false)) else (some false)))
set_option maxHeartbeats 8000000 in
set_option maxRecDepth 100000 in
theorem pleachlaw37_awake.calls  (r : Bool) (w : World) (h : pleachlaw37_awake.f  = some r) :
    Calls Try.prog 9 #[] w fun e w' => e = .returned (.bool r) ∧ Below w.heap.size w w' := by
  have HB := Aside0.mk (Below.refl w.heap.size w)
  have H : ((refs_Set.f ([] : List (S42)) 1 (⟨#[97]⟩ : ByteArray) (⟨#[]⟩ : ByteArray) (⟨#[120]⟩ : ByteArray)).bind fun bt142 => ((refs_Set.f bt142.1 1 (⟨#[97]⟩ : ByteArray) (⟨#[]⟩ : ByteArray) (⟨#[121]⟩ : ByteArray)).bind fun bt146 => (if (bt142.1.length : Int) = 1 then (if bt142.2 = 0 then (some (bt146.2 == 10)) else (some false)) else (some false)))) = some r := h
  clear h
  replace H := Option.bind_eq_some_iff.mp H
  obtain ⟨⟨t142, t143⟩, A10, H⟩ := H
  replace H : ((refs_Set.f t142 1 (⟨#[97]⟩ : ByteArray) (⟨#[]⟩ : ByteArray) (⟨#[121]⟩ : ByteArray)).bind fun bt146 => (if (t142.length : Int) = 1 then (if t143 = 0 then (some (bt146.2 == 10)) else (some false)) else (some false))) = some r := H
  have A1 := Aside0.mk A10
  clear A10
  replace H := Option.bind_eq_some_iff.mp H
  obtain ⟨⟨t146, t147⟩, A20, H⟩ := H
  replace H : (if (t142.length : Int) = 1 then (if t143 = 0 then (some (t147 == 10)) else (some false)) else (some false)) = some r := H
  have A2 := Aside0.mk A20
  clear A20
  by_cases c3 : (t142.length : Int) = 1
  · rw [if_pos c3] at H
    have c3b0 : ((t142.length : Int) == 1) = true := beq_iff_eq.mpr c3
    have c3b1 : ((t142.length : Int) != 1) = false := bne_eq_false_iff_eq.mpr c3
    clear c3
    by_cases c4 : t143 = 0
    · rw [if_pos c4] at H
      have c4b0 : (t143 == 0) = true := beq_iff_eq.mpr c4
      have c4b1 : (t143 != 0) = false := bne_eq_false_iff_eq.mpr c4
      clear c4
      obtain rfl := Option.some.inj H
      go_enter Try.func9, Try.ntmps9
      go_wp2_with (first | ((with_reducible refine gate_callee (f := 10) rfl ?_); refine M.goes (some 6) Try.func10 #[.slice none 0 0, .int .i64 1, .string (⟨#[97]⟩ : ByteArray), .string (⟨#[]⟩ : ByteArray), .string (⟨#[120]⟩ : ByteArray)] rfl ?_; (refine (refs_Set.calls _ _ ([] : List (S42)) 1 (⟨#[97]⟩ : ByteArray) (⟨#[]⟩ : ByteArray) (⟨#[120]⟩ : ByteArray) t142 t143 _ ?side1 ?side2 A1.out).mono ?_); (case side1 => exact Kd.C_nil _ _); (case side2 => exact Nat.le_refl _); rintro e w5 ⟨v144, rfl, ho0, hb⟩; refine ⟨_, rfl, ?_⟩; have n0_ := Aside0.mk (Kd.R_lower ho0 (below_size (M.up HB))); have n1_ := M.upS HB hb; clear HB; have HO145 := n0_; have HB := n1_; clear n0_ n1_; (try clear hb); (try clear ho0); obtain ⟨Ao6, co6, eo6⟩ := Kd.R_slice HO145.out; subst eo6) | ((with_reducible refine gate_callee (f := 10) rfl ?_); refine M.goes (some 11) Try.func10 #[.slice Ao6 t142.length co6, .int .i64 1, .string (⟨#[97]⟩ : ByteArray), .string (⟨#[]⟩ : ByteArray), .string (⟨#[121]⟩ : ByteArray)] rfl ?_; (with_reducible refine (refs_Set.calls _ _ t142 1 (⟨#[97]⟩ : ByteArray) (⟨#[]⟩ : ByteArray) (⟨#[121]⟩ : ByteArray) t146 t147 _ ?side1 ?side2 A2.out).mono ?_); (case side1 => repeat (first | exact (Kd.R_reads' HO145.out).2.2 | (with_reducible refine Kd.C_alloc ?_ _) | (with_reducible refine Kd.C_drewN ?_ _) | (with_reducible refine Kd.C_drew ?_))); (case side2 => exact (Kd.R_reads' HO145.out).2.1); rintro e w7 ⟨v148, rfl, ho0, hb⟩; refine ⟨_, rfl, ?_⟩; have n0_ := Aside0.mk (Kd.R_elder' (M.ro HO145) (Kd.R_base ho0) hb); have n1_ := Aside0.mk (Kd.R_lower (Kd.R_new' ho0 (Kd.R_lt (M.ro HO145))) (below_size (M.up HB))); have n2_ := M.upS HB hb; clear HO145 HB; have HO145 := n0_; have HO149 := n1_; have HB := n2_; clear n0_ n1_ n2_; (try clear hb); (try clear ho0)))
      go_ret
      exact M.fin (M.up HB)
    · rw [if_neg c4] at H
      have c4b0 : (t143 == 0) = false := beq_eq_false_iff_ne.mpr c4
      have c4b1 : (t143 != 0) = true := bne_iff_ne.mpr c4
      obtain rfl := Option.some.inj H
      go_enter Try.func9, Try.ntmps9
      go_wp2_with (first | ((with_reducible refine gate_callee (f := 10) rfl ?_); refine M.goes (some 6) Try.func10 #[.slice none 0 0, .int .i64 1, .string (⟨#[97]⟩ : ByteArray), .string (⟨#[]⟩ : ByteArray), .string (⟨#[120]⟩ : ByteArray)] rfl ?_; (refine (refs_Set.calls _ _ ([] : List (S42)) 1 (⟨#[97]⟩ : ByteArray) (⟨#[]⟩ : ByteArray) (⟨#[120]⟩ : ByteArray) t142 t143 _ ?side1 ?side2 A1.out).mono ?_); (case side1 => exact Kd.C_nil _ _); (case side2 => exact Nat.le_refl _); rintro e w8 ⟨v144, rfl, ho0, hb⟩; refine ⟨_, rfl, ?_⟩; have n0_ := Aside0.mk (Kd.R_lower ho0 (below_size (M.up HB))); have n1_ := M.upS HB hb; clear HB; have HO145 := n0_; have HB := n1_; clear n0_ n1_; (try clear hb); (try clear ho0); obtain ⟨Ao9, co9, eo9⟩ := Kd.R_slice HO145.out; subst eo9) | ((with_reducible refine gate_callee (f := 10) rfl ?_); refine M.goes (some 11) Try.func10 #[.slice Ao9 t142.length co9, .int .i64 1, .string (⟨#[97]⟩ : ByteArray), .string (⟨#[]⟩ : ByteArray), .string (⟨#[121]⟩ : ByteArray)] rfl ?_; (with_reducible refine (refs_Set.calls _ _ t142 1 (⟨#[97]⟩ : ByteArray) (⟨#[]⟩ : ByteArray) (⟨#[121]⟩ : ByteArray) t146 t147 _ ?side1 ?side2 A2.out).mono ?_); (case side1 => repeat (first | exact (Kd.R_reads' HO145.out).2.2 | (with_reducible refine Kd.C_alloc ?_ _) | (with_reducible refine Kd.C_drewN ?_ _) | (with_reducible refine Kd.C_drew ?_))); (case side2 => exact (Kd.R_reads' HO145.out).2.1); rintro e w10 ⟨v148, rfl, ho0, hb⟩; refine ⟨_, rfl, ?_⟩; have n0_ := Aside0.mk (Kd.R_elder' (M.ro HO145) (Kd.R_base ho0) hb); have n1_ := Aside0.mk (Kd.R_lower (Kd.R_new' ho0 (Kd.R_lt (M.ro HO145))) (below_size (M.up HB))); have n2_ := M.upS HB hb; clear HO145 HB; have HO145 := n0_; have HO149 := n1_; have HB := n2_; clear n0_ n1_ n2_; (try clear hb); (try clear ho0)))
      go_ret
      exact M.fin (M.up HB)
  · rw [if_neg c3] at H
    have c3b0 : ((t142.length : Int) == 1) = false := beq_eq_false_iff_ne.mpr c3
    have c3b1 : ((t142.length : Int) != 1) = true := bne_iff_ne.mpr c3
    obtain rfl := Option.some.inj H
    go_enter Try.func9, Try.ntmps9
    go_wp2_with (first | ((with_reducible refine gate_callee (f := 10) rfl ?_); refine M.goes (some 6) Try.func10 #[.slice none 0 0, .int .i64 1, .string (⟨#[97]⟩ : ByteArray), .string (⟨#[]⟩ : ByteArray), .string (⟨#[120]⟩ : ByteArray)] rfl ?_; (refine (refs_Set.calls _ _ ([] : List (S42)) 1 (⟨#[97]⟩ : ByteArray) (⟨#[]⟩ : ByteArray) (⟨#[120]⟩ : ByteArray) t142 t143 _ ?side1 ?side2 A1.out).mono ?_); (case side1 => exact Kd.C_nil _ _); (case side2 => exact Nat.le_refl _); rintro e w11 ⟨v144, rfl, ho0, hb⟩; refine ⟨_, rfl, ?_⟩; have n0_ := Aside0.mk (Kd.R_lower ho0 (below_size (M.up HB))); have n1_ := M.upS HB hb; clear HB; have HO145 := n0_; have HB := n1_; clear n0_ n1_; (try clear hb); (try clear ho0); obtain ⟨Ao12, co12, eo12⟩ := Kd.R_slice HO145.out; subst eo12) | ((with_reducible refine gate_callee (f := 10) rfl ?_); refine M.goes (some 11) Try.func10 #[.slice Ao12 t142.length co12, .int .i64 1, .string (⟨#[97]⟩ : ByteArray), .string (⟨#[]⟩ : ByteArray), .string (⟨#[121]⟩ : ByteArray)] rfl ?_; (with_reducible refine (refs_Set.calls _ _ t142 1 (⟨#[97]⟩ : ByteArray) (⟨#[]⟩ : ByteArray) (⟨#[121]⟩ : ByteArray) t146 t147 _ ?side1 ?side2 A2.out).mono ?_); (case side1 => repeat (first | exact (Kd.R_reads' HO145.out).2.2 | (with_reducible refine Kd.C_alloc ?_ _) | (with_reducible refine Kd.C_drewN ?_ _) | (with_reducible refine Kd.C_drew ?_))); (case side2 => exact (Kd.R_reads' HO145.out).2.1); rintro e w13 ⟨v148, rfl, ho0, hb⟩; refine ⟨_, rfl, ?_⟩; have n0_ := Aside0.mk (Kd.R_elder' (M.ro HO145) (Kd.R_base ho0) hb); have n1_ := Aside0.mk (Kd.R_lower (Kd.R_new' ho0 (Kd.R_lt (M.ro HO145))) (below_size (M.up HB))); have n2_ := M.upS HB hb; clear HO145 HB; have HO145 := n0_; have HO149 := n1_; have HB := n2_; clear n0_ n1_ n2_; (try clear hb); (try clear ho0)))
    go_ret
    exact M.fin (M.up HB)

end Go.Proofs.Ytkaglpjdeinbhaa.ERefsRecords
