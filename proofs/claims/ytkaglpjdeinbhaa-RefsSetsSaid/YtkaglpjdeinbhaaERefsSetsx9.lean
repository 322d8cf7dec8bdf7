-- Written by this session's own program (wip/tools/ext.py) for this claim; Lean checks it.
import Derived.Test.YtkaglpjdeinbhaaERefsSetsx0
import Derived.Test.YtkaglpjdeinbhaaERefsSetsx1
import Derived.Test.YtkaglpjdeinbhaaERefsSetsx2
import Derived.Test.YtkaglpjdeinbhaaERefsSetsx3
import Derived.Test.YtkaglpjdeinbhaaERefsSetsx5
import Derived.Test.YtkaglpjdeinbhaaERefsSetsx6
import Derived.Test.YtkaglpjdeinbhaaERefsSetsx7
import Derived.Test.YtkaglpjdeinbhaaERefsSetsx8
namespace Go.Proofs.Ytkaglpjdeinbhaa.ERefsSets
open Go.RowKit Go.Proofs.YtkaglpjdeinbhaaW.PrintWords Go.Proofs.YtkaglpjdeinbhaaW.PrintLast Go.Proofs.YtkaglpjdeinbhaaW.PrintMore
attribute [local go_sem] M.run_leq M.run_gtr M.run_geq max2_int min2_int max_two min_two max_three min_three max_four min_four   -- for this text's walks alone
set_option linter.unusedVariables false
set_option linter.unusedSimpArgs false

attribute [local go_sem high] eqA42
/-! ### pleachref37_Same: function 12 -/
def pleachref37_Same.l0 : Nat → List (S42) → List (S42) → Int → Int → Option (Bool)
  | 0, _, _, _, _ => none
  | k + 1, x0, x1, x12, x13 => if x13 < x12 then (if 0 ≤ x13 then (if x13 < (x0.length : Int) then (if x13 < (x1.length : Int) then (if (!(((rd_T42 x0 x13).f0) == ((rd_T42 x1 x13).f0)) || (!((((rd_T42 x0 x13).f1).toList) == (((rd_T42 x1 x13).f1).toList)) || (!((((rd_T42 x0 x13).f2).toList) == (((rd_T42 x1 x13).f2).toList))))) = true then (some false) else (pleachref37_Same.l0 k x0 x1 x12 (wrap64 (x13 + 1)))) else (none)) else (none)) else (none)) else (some true)
def pleachref37_Same.f (k : Nat) (l0 : List (S42)) (l1 : List (S42)) : Option (Bool) := if (l0.length : Int) = (l1.length : Int) then (pleachref37_Same.l0 k l0 l1 (l0.length : Int) 0) else (some false)
theorem pleachref37_Same.mono_l : ∀ k, (∀ y0 y1 y2 y3, LeO (pleachref37_Same.l0 k y0 y1 y2 y3) (pleachref37_Same.l0 (k + 1) y0 y1 y2 y3))
  | 0 => fun _ _ _ _ r h => by simp [pleachref37_Same.l0] at h
  | k + 1 => by
    have ih0 := pleachref37_Same.mono_l k
    · intro y0 y1 y2 y3
      unfold pleachref37_Same.l0
      repeat' first
      | (with_reducible exact ih0 _ _ _ _)
      | (with_reducible exact LeO.refl _)
      | (with_reducible exact LeO.none _)
      | (with_reducible refine LeO.ite ?_ ?_)
      | (with_reducible refine LeO.bind ?_ (fun _ => ?_))
      | exact ih0 _ _ _ _
      | exact LeO.none _
      | refine LeO.ite ?_ ?_
      | refine LeO.bind ?_ (fun _ => ?_)
theorem pleachref37_Same.mono : ∀ a0 a1 k, LeO (pleachref37_Same.f k a0 a1) (pleachref37_Same.f (k + 1) a0 a1) := by
  intro a0 a1 k
  have ih0 := pleachref37_Same.mono_l k
  unfold pleachref37_Same.f
  repeat' first
      | (with_reducible exact ih0 _ _ _ _)
      | (with_reducible exact LeO.refl _)
      | (with_reducible exact LeO.none _)
      | (with_reducible refine LeO.ite ?_ ?_)
      | (with_reducible refine LeO.bind ?_ (fun _ => ?_))
      | exact ih0 _ _ _ _
      | exact LeO.none _
      | refine LeO.ite ?_ ?_
      | refine LeO.bind ?_ (fun _ => ?_)
set_option maxHeartbeats 8000000 in
set_option maxRecDepth 100000 in
theorem pleachref37_Same.calls (k : Nat) (A0 : Option Addr) (c0 : Nat) (l0 : List (S42)) (A1 : Option Addr) (c1 : Nat) (l1 : List (S42)) (r : Bool) (w : World) (hr0 : Kd.C k42 w A0 l0.length l0) (hc0 : l0.length ≤ c0) (hr1 : Kd.C k42 w A1 l1.length l1) (hc1 : l1.length ≤ c1) (h : pleachref37_Same.f k l0 l1 = some r) :
    Calls Try.prog 12 #[.slice A0 l0.length c0, .slice A1 l1.length c1] w fun e w' => e = .returned (.bool r) ∧ Drawn0 w w' := by
  have hu42 := Try.underlying42
  have HR0 := Aside0.mk hr0
  have HC0 := Aside0.mk hc0
  clear hr0 hc0
  have HR1 := Aside0.mk hr1
  have HC1 := Aside0.mk hc1
  clear hr1 hc1
  have H : (if (l0.length : Int) = (l1.length : Int) then (pleachref37_Same.l0 k l0 l1 (l0.length : Int) 0) else (some false)) = some r := h
  clear h
  by_cases c3 : (l0.length : Int) = (l1.length : Int)
  · rw [if_pos c3] at H
    have c3b0 : ((l0.length : Int) == (l1.length : Int)) = true := beq_iff_eq.mpr c3
    have c3b1 : ((l0.length : Int) != (l1.length : Int)) = false := bne_eq_false_iff_eq.mpr c3
    have c3b2 : (l0.length == l1.length) = true := by first | simpa using c3 | (simp at c3 ⊢; omega)
    clear c3
    have H' := Aside0.mk H
    clear H
    go_enter Try.func12, Try.ntmps12
    go_wp2
    repeat (go_quiet (fail); try go_wp2)
    go_loopg [13] k (fun kq v13 w' => ∃ (x13_1 : Int), v13 = .int .i64 x13_1 ∧ Aside0 (pleachref37_Same.l0 kq l0 l1 (l0.length : Int) x13_1 = some r) ∧ Aside0 (kq ≤ k) ∧ Drawn0 w w')
    case atStart => exact ⟨(0), (by first | rfl | (simp; done) | (simp [*]; done) | (simp [M.isEmpty_bne]; done)), H', ⟨Nat.le_refl _⟩, by repeat (first | exact Drawn0.refl _ | apply Drawn0.step)⟩
    case round =>
      clear H'
      try clear c1
      try clear p2
      try clear c3
      try clear c3b0
      try clear c3b1
      try clear c3b2
      obtain ⟨x13_1, rfl, HA, HK1, ⟨m1, rfl⟩⟩ := hrel
      cases gk with
      | zero => exact absurd HA.out (by simp [pleachref37_Same.l0])
      | succ k1 =>
        have H := HA.out
        clear HA
        simp only [pleachref37_Same.l0] at H
        by_cases c4 : x13_1 < (l0.length : Int)
        · rw [if_pos c4] at H
          have c4b0 : decide (x13_1 < (l0.length : Int)) = true := decide_eq_true c4
          clear c4
          by_cases c5 : 0 ≤ x13_1
          · rw [if_pos c5] at H
            have c5b0 : decide (0 ≤ x13_1) = true := decide_eq_true c5
            clear c5
            by_cases c6 : x13_1 < (l0.length : Int)
            · rw [if_pos c6] at H
              have c6b0 : decide (x13_1 < (l0.length : Int)) = true := decide_eq_true c6
              clear c6
              by_cases c7 : x13_1 < (l1.length : Int)
              · rw [if_pos c7] at H
                have c7b0 : decide (x13_1 < (l1.length : Int)) = true := decide_eq_true c7
                clear c7
                by_cases c8 : (!(((rd_T42 l0 x13_1).f0) == ((rd_T42 l1 x13_1).f0)) || (!((((rd_T42 l0 x13_1).f1).toList) == (((rd_T42 l1 x13_1).f1).toList)) || (!((((rd_T42 l0 x13_1).f2).toList) == (((rd_T42 l1 x13_1).f2).toList))))) = true
                · rw [if_pos c8] at H
                  have c8b0 : (!(((rd_T42 l0 x13_1).f0) == ((rd_T42 l1 x13_1).f0)) || (!((((rd_T42 l0 x13_1).f1).toList) == (((rd_T42 l1 x13_1).f1).toList)) || (!((((rd_T42 l0 x13_1).f2).toList) == (((rd_T42 l1 x13_1).f2).toList))))) = true := c8
                  clear c8
                  obtain rfl := Option.some.inj H
                  have p170 : 0 ≤ (x13_1 : Int) := of_decide_eq_true (by first | (with_reducible assumption) | assumption)
                  have q170 : x13_1 < (l0.length : Int) := of_decide_eq_true (by first | (with_reducible assumption) | assumption)
                  obtain ⟨ad170, e170, hx170_0, hx170_1, hx170_2⟩ := at_T42 HR0.out x13_1 p170 q170
                  cases e170
                  replace p170 := eq_true p170
                  replace q170 := eq_true q170
                  have p171 : 0 ≤ (x13_1 : Int) := of_decide_eq_true (by first | (with_reducible assumption) | assumption)
                  have q171 : x13_1 < (l1.length : Int) := of_decide_eq_true (by first | (with_reducible assumption) | assumption)
                  obtain ⟨ad171, e171, hx171_0, hx171_1, hx171_2⟩ := at_T42 HR1.out x13_1 p171 q171
                  cases e171
                  replace p171 := eq_true p171
                  replace q171 := eq_true q171
                  go_wp2
                  repeat (go_quiet (fail); try go_wp2)
                  go_ret
                  exact ⟨by first | rfl | (simp; done) | (simp [*]; done), by repeat (first | exact Drawn0.refl _ | apply Drawn0.step)⟩
                · rw [if_neg c8] at H
                  have c8b0 : (!(((rd_T42 l0 x13_1).f0) == ((rd_T42 l1 x13_1).f0)) || (!((((rd_T42 l0 x13_1).f1).toList) == (((rd_T42 l1 x13_1).f1).toList)) || (!((((rd_T42 l0 x13_1).f2).toList) == (((rd_T42 l1 x13_1).f2).toList))))) = false := by simpa using c8
                  clear c8
                  have H' := Aside0.mk H
                  clear H
                  have p170 : 0 ≤ (x13_1 : Int) := of_decide_eq_true (by first | (with_reducible assumption) | assumption)
                  have q170 : x13_1 < (l0.length : Int) := of_decide_eq_true (by first | (with_reducible assumption) | assumption)
                  obtain ⟨ad170, e170, hx170_0, hx170_1, hx170_2⟩ := at_T42 HR0.out x13_1 p170 q170
                  cases e170
                  replace p170 := eq_true p170
                  replace q170 := eq_true q170
                  have p171 : 0 ≤ (x13_1 : Int) := of_decide_eq_true (by first | (with_reducible assumption) | assumption)
                  have q171 : x13_1 < (l1.length : Int) := of_decide_eq_true (by first | (with_reducible assumption) | assumption)
                  obtain ⟨ad171, e171, hx171_0, hx171_1, hx171_2⟩ := at_T42 HR1.out x13_1 p171 q171
                  cases e171
                  replace p171 := eq_true p171
                  replace q171 := eq_true q171
                  go_wp2
                  repeat (go_quiet (fail); try go_wp2)
                  go_roundg k1
                  case measure => have := HK1.out; omega
                  case rel => exact ⟨(wrap64 (x13_1 + 1)), (by first | rfl | (simp; done) | (simp [*]; done) | (simp [M.isEmpty_bne]; done)), H', ⟨by have := HK1.out; omega⟩, by repeat (first | exact Drawn0.refl _ | apply Drawn0.step)⟩
              · rw [if_neg c7] at H
                exact absurd H (by simp)
            · rw [if_neg c6] at H
              exact absurd H (by simp)
          · rw [if_neg c5] at H
            exact absurd H (by simp)
        · rw [if_neg c4] at H
          have c4b0 : decide (x13_1 < (l0.length : Int)) = false := decide_eq_false c4
          clear c4
          obtain rfl := Option.some.inj H
          go_wp2
          repeat (go_quiet (fail); try go_wp2)
          go_ret
          exact ⟨by first | rfl | (simp; done) | (simp [*]; done), by repeat (first | exact Drawn0.refl _ | apply Drawn0.step)⟩
  · rw [if_neg c3] at H
    have c3b0 : ((l0.length : Int) == (l1.length : Int)) = false := beq_eq_false_iff_ne.mpr c3
    have c3b1 : ((l0.length : Int) != (l1.length : Int)) = true := bne_iff_ne.mpr c3
    have c3b2 : (l0.length == l1.length) = false := by first | simpa using c3 | (simp at c3 ⊢; omega)
    obtain rfl := Option.some.inj H
    go_enter Try.func12, Try.ntmps12
    go_wp2
    repeat (go_quiet (fail); try go_wp2)
    go_ret
    exact ⟨by first | rfl | (simp; done) | (simp [*]; done), by repeat (first | exact Drawn0.refl _ | apply Drawn0.step)⟩

/-! ### refs_Get_p: function 13 -/
def refs_Get_p.f (l0 : List (S42)) (a1 : Int) (a2 : ByteArray) : Option (ByteArray) := (refs_find.f l0 a1 a2).bind fun bt172 => (if bt172.2 = true then (if 0 ≤ bt172.1 then (if bt172.1 < (l0.length : Int) then (some ((rd_T42 l0 bt172.1).f2)) else (none)) else (none)) else (some (⟨#[]⟩ : ByteArray)))
set_option maxHeartbeats 8000000 in
set_option maxRecDepth 100000 in
theorem refs_Get_p.calls (A0 : Option Addr) (c0 : Nat) (l0 : List (S42)) (a1 : Int) (a2 : ByteArray) (r : ByteArray) (w : World) (hr0 : Kd.C k42 w A0 l0.length l0) (hc0 : l0.length ≤ c0) (h : refs_Get_p.f l0 a1 a2 = some r) :
    Calls Try.prog 13 #[.slice A0 l0.length c0, .int .i64 a1, .string a2] w fun e w' => e = .returned (.string r) ∧ Below w.heap.size w w' := by
  have HR0 := Aside0.mk hr0
  have HC0 := Aside0.mk hc0
  clear hr0 hc0
  have HB := Aside0.mk (Below.refl w.heap.size w)
  have H : ((refs_find.f l0 a1 a2).bind fun bt172 => (if bt172.2 = true then (if 0 ≤ bt172.1 then (if bt172.1 < (l0.length : Int) then (some ((rd_T42 l0 bt172.1).f2)) else (none)) else (none)) else (some (⟨#[]⟩ : ByteArray)))) = some r := h
  clear h
  replace H := Option.bind_eq_some_iff.mp H
  obtain ⟨⟨t172, t173⟩, A40, H⟩ := H
  replace H : (if t173 = true then (if 0 ≤ t172 then (if t172 < (l0.length : Int) then (some ((rd_T42 l0 t172).f2)) else (none)) else (none)) else (some (⟨#[]⟩ : ByteArray))) = some r := H
  have A4 := Aside0.mk A40
  clear A40
  by_cases c5 : t173 = true
  · subst c5
    have H1 : (if 0 ≤ t172 then (if t172 < (l0.length : Int) then (some ((rd_T42 l0 t172).f2)) else (none)) else (none)) = some r := by rw [if_pos rfl] at H; exact H
    clear H
    have H := H1
    clear H1
    by_cases c6 : 0 ≤ t172
    · rw [if_pos c6] at H
      have c6b0 : decide (0 ≤ t172) = true := decide_eq_true c6
      clear c6
      by_cases c7 : t172 < (l0.length : Int)
      · rw [if_pos c7] at H
        have c7b0 : decide (t172 < (l0.length : Int)) = true := decide_eq_true c7
        clear c7
        obtain rfl := Option.some.inj H
        go_enter Try.func13, Try.ntmps13
        go_wp2_with (first | ((with_reducible refine gate_callee (f := 26) rfl ?_); refine M.goes (some 13) Try.func26 #[.slice A0 l0.length c0, .int .i64 a1, .string a2] rfl ?_; (with_reducible refine (refs_find.calls _ _ l0 a1 a2 t172 true _ ?side1 ?side2 A4.out).mono ?_); (case side1 => repeat (first | exact HR0.out | (with_reducible refine Kd.C_alloc ?_ _) | (with_reducible refine Kd.C_drewN ?_ _) | (with_reducible refine Kd.C_drew ?_))); (case side2 => exact HC0.out); rintro e w8 ⟨rfl, hb⟩; refine ⟨_, rfl, ?_⟩; have n0_ := M.upS HB hb; clear HB; have HB := n0_; clear n0_; (try clear hb); have p174 : 0 ≤ (t172 : Int) := of_decide_eq_true (by first | (with_reducible assumption) | assumption); have q174 : t172 < (l0.length : Int) := of_decide_eq_true (by first | (with_reducible assumption) | assumption); obtain ⟨ad174, e174, hx174_0, hx174_1, hx174_2⟩ := at_T42 HR0.out t172 p174 q174; cases e174; replace hx174_0 := (HB.out.cell (World.block_lt_of_cell? w _ hx174_0)).trans hx174_0; replace hx174_1 := (HB.out.cell (World.block_lt_of_cell? w _ hx174_1)).trans hx174_1; replace hx174_2 := (HB.out.cell (World.block_lt_of_cell? w _ hx174_2)).trans hx174_2; replace p174 := eq_true p174; replace q174 := eq_true q174))
        go_ret
        exact M.fin (M.up HB)
      · rw [if_neg c7] at H
        exact absurd H (by simp)
    · rw [if_neg c6] at H
      exact absurd H (by simp)
  · replace c5 := Bool.eq_false_iff.mpr c5
    subst c5
    have H1 : (some (⟨#[]⟩ : ByteArray)) = some r := by rw [if_neg (show ¬ (false = true) by decide)] at H; exact H
    clear H
    have H := H1
    clear H1
    obtain rfl := Option.some.inj H
    go_enter Try.func13, Try.ntmps13
    go_wp2_with (first | ((with_reducible refine gate_callee (f := 26) rfl ?_); refine M.goes (some 13) Try.func26 #[.slice A0 l0.length c0, .int .i64 a1, .string a2] rfl ?_; (with_reducible refine (refs_find.calls _ _ l0 a1 a2 t172 false _ ?side1 ?side2 A4.out).mono ?_); (case side1 => repeat (first | exact HR0.out | (with_reducible refine Kd.C_alloc ?_ _) | (with_reducible refine Kd.C_drewN ?_ _) | (with_reducible refine Kd.C_drew ?_))); (case side2 => exact HC0.out); rintro e w9 ⟨rfl, hb⟩; refine ⟨_, rfl, ?_⟩; have n0_ := M.upS HB hb; clear HB; have HB := n0_; clear n0_; (try clear hb)))
    go_ret
    exact M.fin (M.up HB)

-- this session's own plain form
def refs_Get.f (l0 : List S42) (a1 : Int) (a2 : ByteArray) : Option ByteArray := if M.wr S42.f0 S42.f1 S42.f2 l0 = 0 then some (M.rget S42.f0 S42.f1 S42.f2 l0 a1 a2) else none
theorem refs_Get.ev (l : List S42) (k : Int) (s : ByteArray) (r : ByteArray) (h : refs_Get.f l k s = some r) : refs_Get_p.f l k s = some r := by
  unfold refs_Get.f at h
  split at h
  case isFalse => cases h
  case isTrue hh =>
    obtain rfl := Option.some.inj h
    obtain ⟨h64, hok, hp⟩ := (M.wr_zero S42.f0 S42.f1 S42.f2 l).1 hh
    obtain ⟨mid, e1, e2, e3⟩ := M.rsplit S42.f0 S42.f1 k s l hp
    obtain ⟨A, hA⟩ : ∃ A, A = l.filter (M.rless_ S42.f0 S42.f1 k s) := ⟨_, rfl⟩
    obtain ⟨B, hB⟩ : ∃ B, B = l.filter (M.rmore S42.f0 S42.f1 k s) := ⟨_, rfl⟩
    have hBm : ∀ x ∈ B, M.rless k s x.f0 x.f1 := fun x hx => by rw [hB] at hx; exact of_decide_eq_true (List.mem_filter.1 hx).2
    rw [← hA, ← hB] at e1
    rw [← hA] at e2
    have hpp : refs_find.p l k s = A.length := by unfold refs_find.p; rw [← e2]; rfl
    unfold M.rget refs_Get_p.f refs_find.f
    rw [hpp]
    rcases e3 with ⟨rfl, e3⟩ | ⟨x, rfl, x1, x2, e3⟩
    · rw [List.append_nil] at e1
      have hd : l.drop A.length = B := by rw [e1, List.drop_left]
      rw [if_pos ⟨by omega, by rw [hd]; exact fun x hx => M.rless_asymm (hBm x hx)⟩, Option.bind_some, e3]
      have hm : refs_find.met l k s A.length = false := by
        unfold refs_find.met
        refine decide_eq_false ?_
        rintro ⟨z1, z2⟩
        have hz := (M.rcmp_zero _ _ _ _).1 z2
        have hmem : rd_T42 l (A.length : Int) ∈ B := by
          have : rd_T42 l (A.length : Int) = l[A.length] := by unfold rd_T42; simp [z1]
          rw [this, ← hd]
          exact List.mem_drop_iff_getElem.2 ⟨0, by omega, by simp⟩
        have := hBm _ hmem
        rw [hz.1, hz.2] at this
        exact M.rless_irrefl _ _ this
      rw [hm, if_neg (by simp)]; rfl
    · have hd : l.drop A.length = x :: B := by rw [e1, List.append_assoc, List.drop_left]; rfl
      have hlt : A.length < l.length := by
        have := congrArg List.length hd
        rw [List.length_drop, List.length_cons] at this; omega
      have hrd : rd_T42 l (A.length : Int) = x := by
        have h1 : rd_T42 l (A.length : Int) = l[A.length] := by unfold rd_T42; simp [hlt]
        rw [List.drop_eq_getElem_cons hlt] at hd
        rw [h1]; exact (List.cons.inj hd).1
      rw [if_pos ⟨by omega, by
        rw [hd]
        intro y hy
        rcases List.mem_cons.1 hy with rfl | hy
        · rw [x1, x2]; exact M.rless_irrefl _ _
        · exact M.rless_asymm (hBm y hy)⟩, Option.bind_some, e3]
      have hm : refs_find.met l k s A.length = true := by
        unfold refs_find.met
        rw [hrd]
        exact decide_eq_true ⟨hlt, (M.rcmp_zero _ _ _ _).2 ⟨x1, x2⟩⟩
      rw [hm, if_pos rfl, if_pos (by omega), if_pos (by omega), hrd]; rfl
theorem refs_Get.calls (A0 : Option Addr) (c0 : Nat) (l0 : List (S42)) (a1 : Int) (a2 : ByteArray) (r : ByteArray) (w : World) (hr0 : Kd.C k42 w A0 l0.length l0) (hc0 : l0.length ≤ c0) (h : refs_Get.f l0 a1 a2 = some r) :
    Calls Try.prog 13 #[.slice A0 l0.length c0, .int .i64 a1, .string a2] w fun e w' => e = .returned (.string r) ∧ Below w.heap.size w w' := by
  exact refs_Get_p.calls (w := w) (h := refs_Get.ev _ _ _ _ h) (hr0 := hr0) (hc0 := hc0)

/-! ### pleachlaw37_RefsSets: function 3 -/
def pleachlaw37_RefsSets.j0 : Nat → List (S42) → Int → ByteArray → ByteArray → ByteArray → Bool → Option (Bool)
  | 0, _, _, _, _, _, _ => none
  | k + 1, x0, x1, x2, x3, x4, x38 => if x38 = true then ((pleachlaw37_awake.f).bind fun t177 => (some t177)) else ((some (([] : List (S42)) : List (S42))).bind fun y178 => (if y178.length + x0.length < 3518437208883 then ((refs_Set.f x0 x1 x2 x3 x4).bind fun bt184 => ((pleachref37_Set.f x0 x1 x2 x3 x4).bind fun bt188 => ((pleachref37_Same.f k bt184.1 bt188.1).bind fun t192 => (if t192 = true then (if bt184.2 = bt188.2 then ((refs_Get.f x0 x1 x2).bind fun t193 => ((pleachref37_Get.f x0 x1 x2).bind fun t194 => (if t193.toList = t194.toList then ((pleachref37_Same.f k x0 (y178 ++ x0)).bind fun t195 => (if t195 = true then (if bt184.2 = 0 then ((pleachref37_Wrong.f bt184.1).bind fun t196 => (if t196 = 0 then ((pleachlaw37_awake.f).bind fun t197 => (some t197)) else (some false))) else ((pleachlaw37_awake.f).bind fun t198 => (some t198))) else (some false))) else (some false)))) else (some false)) else (some false))))) else (none)))
def pleachlaw37_RefsSets.f (k : Nat) (l0 : List (S42)) (a1 : Int) (a2 : ByteArray) (a3 : ByteArray) (a4 : ByteArray) : Option (Bool) := (pleachref37_Few.f k l0).bind fun t175 => (if t175 = true then ((pleachref37_Wrong.f l0).bind fun t176 => (if t176 = 0 then (if (a2.size : Int) > 100 then (pleachlaw37_RefsSets.j0 k l0 a1 a2 a3 a4 true) else (if (a3.size : Int) > 200 then (pleachlaw37_RefsSets.j0 k l0 a1 a2 a3 a4 true) else (pleachlaw37_RefsSets.j0 k l0 a1 a2 a3 a4 (decide ((a4.size : Int) > 200))))) else (pleachlaw37_RefsSets.j0 k l0 a1 a2 a3 a4 true))) else (pleachlaw37_RefsSets.j0 k l0 a1 a2 a3 a4 true))
theorem pleachlaw37_RefsSets.mono_l : ∀ k, (∀ y0 y1 y2 y3 y4 y5, LeO (pleachlaw37_RefsSets.j0 k y0 y1 y2 y3 y4 y5) (pleachlaw37_RefsSets.j0 (k + 1) y0 y1 y2 y3 y4 y5))
  | 0 => fun _ _ _ _ _ _ r h => by simp [pleachlaw37_RefsSets.j0] at h
  | k + 1 => by
    have ih0 := pleachlaw37_RefsSets.mono_l k
    · intro y0 y1 y2 y3 y4 y5
      unfold pleachlaw37_RefsSets.j0
      repeat' first
      | (with_reducible exact ih0 _ _ _ _ _ _)
      | (with_reducible exact pleachref37_Few.mono _ _)
      | (with_reducible exact pleachref37_Same.mono _ _ _)
      | (with_reducible exact LeO.refl _)
      | (with_reducible exact LeO.none _)
      | (with_reducible refine LeO.ite ?_ ?_)
      | (with_reducible refine LeO.bind ?_ (fun _ => ?_))
      | exact ih0 _ _ _ _ _ _
      | exact pleachref37_Few.mono _ _
      | exact pleachref37_Same.mono _ _ _
      | exact LeO.none _
      | refine LeO.ite ?_ ?_
      | refine LeO.bind ?_ (fun _ => ?_)
theorem pleachlaw37_RefsSets.mono : ∀ a0 a1 a2 a3 a4 k, LeO (pleachlaw37_RefsSets.f k a0 a1 a2 a3 a4) (pleachlaw37_RefsSets.f (k + 1) a0 a1 a2 a3 a4) := by
  intro a0 a1 a2 a3 a4 k
  have ih0 := pleachlaw37_RefsSets.mono_l k
  unfold pleachlaw37_RefsSets.f
  repeat' first
      | (with_reducible exact ih0 _ _ _ _ _ _)
      | (with_reducible exact pleachref37_Few.mono _ _)
      | (with_reducible exact pleachref37_Same.mono _ _ _)
      | (with_reducible exact LeO.refl _)
      | (with_reducible exact LeO.none _)
      | (with_reducible refine LeO.ite ?_ ?_)
      | (with_reducible refine LeO.bind ?_ (fun _ => ?_))
      | exact ih0 _ _ _ _ _ _
      | exact pleachref37_Few.mono _ _
      | exact pleachref37_Same.mono _ _ _
      | exact LeO.none _
      | refine LeO.ite ?_ ?_
      | refine LeO.bind ?_ (fun _ => ?_)
set_option maxHeartbeats 8000000 in
set_option maxRecDepth 100000 in
theorem pleachlaw37_RefsSets.calls (k : Nat) (A0 : Option Addr) (c0 : Nat) (l0 : List (S42)) (a1 : Int) (a2 : ByteArray) (a3 : ByteArray) (a4 : ByteArray) (r : Bool) (w : World) (hr0 : Kd.C k42 w A0 l0.length l0) (hc0 : l0.length ≤ c0) (h : pleachlaw37_RefsSets.f k l0 a1 a2 a3 a4 = some r) :
    Calls Try.prog 3 #[.slice A0 l0.length c0, .int .i64 a1, .string a2, .string a3, .string a4] w fun e w' => e = .returned (.bool r) ∧ Below w.heap.size w w' := by
  have HR0 := Aside0.mk hr0
  have HC0 := Aside0.mk hc0
  clear hr0 hc0
  have HB := Aside0.mk (Below.refl w.heap.size w)
  have H : ((pleachref37_Few.f k l0).bind fun t175 => (if t175 = true then ((pleachref37_Wrong.f l0).bind fun t176 => (if t176 = 0 then (if (a2.size : Int) > 100 then (pleachlaw37_RefsSets.j0 k l0 a1 a2 a3 a4 true) else (if (a3.size : Int) > 200 then (pleachlaw37_RefsSets.j0 k l0 a1 a2 a3 a4 true) else (pleachlaw37_RefsSets.j0 k l0 a1 a2 a3 a4 (decide ((a4.size : Int) > 200))))) else (pleachlaw37_RefsSets.j0 k l0 a1 a2 a3 a4 true))) else (pleachlaw37_RefsSets.j0 k l0 a1 a2 a3 a4 true))) = some r := h
  clear h
  have HC6 := Aside0.mk H
  clear H
  go_enter Try.func3, Try.ntmps3
  go_upto_region 1 with (fail)
  go_cut [38] (fun v38 wc => ∃ (kq : Nat) (x38_5 : Bool), v38 = .bool x38_5 ∧ Aside0 (pleachlaw37_RefsSets.j0 kq l0 a1 a2 a3 a4 x38_5 = some r) ∧ Aside0 (kq ≤ k) ∧ Aside0 (Below w.heap.size w wc))
  case first =>
    have H := HC6.out
    clear HC6
    replace H := Option.bind_eq_some_iff.mp H
    obtain ⟨t175, A70, H⟩ := H
    replace H : (if t175 = true then ((pleachref37_Wrong.f l0).bind fun t176 => (if t176 = 0 then (if (a2.size : Int) > 100 then (pleachlaw37_RefsSets.j0 k l0 a1 a2 a3 a4 true) else (if (a3.size : Int) > 200 then (pleachlaw37_RefsSets.j0 k l0 a1 a2 a3 a4 true) else (pleachlaw37_RefsSets.j0 k l0 a1 a2 a3 a4 (decide ((a4.size : Int) > 200))))) else (pleachlaw37_RefsSets.j0 k l0 a1 a2 a3 a4 true))) else (pleachlaw37_RefsSets.j0 k l0 a1 a2 a3 a4 true)) = some r := H
    have A7 := Aside0.mk A70
    clear A70
    by_cases c8 : t175 = true
    · subst c8
      have H1 : ((pleachref37_Wrong.f l0).bind fun t176 => (if t176 = 0 then (if (a2.size : Int) > 100 then (pleachlaw37_RefsSets.j0 k l0 a1 a2 a3 a4 true) else (if (a3.size : Int) > 200 then (pleachlaw37_RefsSets.j0 k l0 a1 a2 a3 a4 true) else (pleachlaw37_RefsSets.j0 k l0 a1 a2 a3 a4 (decide ((a4.size : Int) > 200))))) else (pleachlaw37_RefsSets.j0 k l0 a1 a2 a3 a4 true))) = some r := by rw [if_pos rfl] at H; exact H
      clear H
      have H := H1
      clear H1
      replace H := Option.bind_eq_some_iff.mp H
      obtain ⟨t176, A90, H⟩ := H
      replace H : (if t176 = 0 then (if (a2.size : Int) > 100 then (pleachlaw37_RefsSets.j0 k l0 a1 a2 a3 a4 true) else (if (a3.size : Int) > 200 then (pleachlaw37_RefsSets.j0 k l0 a1 a2 a3 a4 true) else (pleachlaw37_RefsSets.j0 k l0 a1 a2 a3 a4 (decide ((a4.size : Int) > 200))))) else (pleachlaw37_RefsSets.j0 k l0 a1 a2 a3 a4 true)) = some r := H
      have A9 := Aside0.mk A90
      clear A90
      by_cases c10 : t176 = 0
      · rw [if_pos c10] at H
        have c10b0 : (t176 == 0) = true := beq_iff_eq.mpr c10
        have c10b1 : (t176 != 0) = false := bne_eq_false_iff_eq.mpr c10
        clear c10
        (first | rw [c10b0] | (simp only [i64_w, i32_w]; rw [c10b0]) | skip)
        by_cases c11 : (a2.size : Int) > 100
        · rw [if_pos c11] at H
          have c11b0 : decide (100 < (a2.size : Int)) = true := decide_eq_true c11
          have c11b1 : decide (100 < a2.size) = true := decide_eq_true (by omega)
          clear c11
          have H' := Aside0.mk H
          clear H
          go_wp2_with (first | ((with_reducible refine gate_callee (f := 7) rfl ?_); refine M.goes (some 17) Try.func7 #[.slice A0 l0.length c0] rfl ?_; (with_reducible refine (pleachref37_Few.calls k _ _ l0 true _ ?side1 ?side2 A7.out).mono ?_); (case side1 => exact M.cB HR0 HB); (case side2 => exact HC0.out); rintro e w12 ⟨rfl, hb⟩; refine ⟨_, rfl, ?_⟩; have n0_ := M.upS HB hb; clear HB; have HB := n0_; clear n0_; (try clear hb)) | (go_at_call 8; (with_reducible refine (pleachref37_Wrong.calls _ _ l0 t176 _ ?side1 ?side2 A9.out).mono ?_); (case side1 => exact M.cB HR0 HB); (case side2 => exact HC0.out); rintro e w13 ⟨rfl, hb⟩; have n0_ := M.upS HB hb; clear HB; have HB := n0_; clear n0_; (try clear hb); (try clear hb2); (try clear hk); (try clear hi)))
          go_meet
          case rel => exact ⟨_, (true), (by first | rfl | (simp; done) | (simp [*]; done) | (simp [M.isEmpty_bne]; done)), H', ⟨by first | omega | exact Nat.le_refl _⟩, ⟨M.up HB⟩⟩
        · rw [if_neg c11] at H
          have c11b0 : decide (100 < (a2.size : Int)) = false := decide_eq_false c11
          have c11b1 : decide (100 < a2.size) = false := decide_eq_false (by omega)
          clear c11
          by_cases c14 : (a3.size : Int) > 200
          · rw [if_pos c14] at H
            have c14b0 : decide (200 < (a3.size : Int)) = true := decide_eq_true c14
            have c14b1 : decide (200 < a3.size) = true := decide_eq_true (by omega)
            clear c14
            have H' := Aside0.mk H
            clear H
            go_wp2_with (first | ((with_reducible refine gate_callee (f := 7) rfl ?_); refine M.goes (some 17) Try.func7 #[.slice A0 l0.length c0] rfl ?_; (with_reducible refine (pleachref37_Few.calls k _ _ l0 true _ ?side1 ?side2 A7.out).mono ?_); (case side1 => exact M.cB HR0 HB); (case side2 => exact HC0.out); rintro e w15 ⟨rfl, hb⟩; refine ⟨_, rfl, ?_⟩; have n0_ := M.upS HB hb; clear HB; have HB := n0_; clear n0_; (try clear hb)) | (go_at_call 8; (with_reducible refine (pleachref37_Wrong.calls _ _ l0 t176 _ ?side1 ?side2 A9.out).mono ?_); (case side1 => exact M.cB HR0 HB); (case side2 => exact HC0.out); rintro e w16 ⟨rfl, hb⟩; have n0_ := M.upS HB hb; clear HB; have HB := n0_; clear n0_; (try clear hb); (try clear hb2); (try clear hk); (try clear hi)))
            go_meet
            case rel => exact ⟨_, (true), (by first | rfl | (simp; done) | (simp [*]; done) | (simp [M.isEmpty_bne]; done)), H', ⟨by first | omega | exact Nat.le_refl _⟩, ⟨M.up HB⟩⟩
          · rw [if_neg c14] at H
            have c14b0 : decide (200 < (a3.size : Int)) = false := decide_eq_false c14
            have c14b1 : decide (200 < a3.size) = false := decide_eq_false (by omega)
            clear c14
            have H' := Aside0.mk H
            clear H
            go_wp2_with (first | ((with_reducible refine gate_callee (f := 7) rfl ?_); refine M.goes (some 17) Try.func7 #[.slice A0 l0.length c0] rfl ?_; (with_reducible refine (pleachref37_Few.calls k _ _ l0 true _ ?side1 ?side2 A7.out).mono ?_); (case side1 => exact M.cB HR0 HB); (case side2 => exact HC0.out); rintro e w17 ⟨rfl, hb⟩; refine ⟨_, rfl, ?_⟩; have n0_ := M.upS HB hb; clear HB; have HB := n0_; clear n0_; (try clear hb)) | (go_at_call 8; (with_reducible refine (pleachref37_Wrong.calls _ _ l0 t176 _ ?side1 ?side2 A9.out).mono ?_); (case side1 => exact M.cB HR0 HB); (case side2 => exact HC0.out); rintro e w18 ⟨rfl, hb⟩; have n0_ := M.upS HB hb; clear HB; have HB := n0_; clear n0_; (try clear hb); (try clear hb2); (try clear hk); (try clear hi)))
            go_meet
            case rel => exact ⟨_, (decide ((a4.size : Int) > 200)), (by first | rfl | (simp; done) | (simp [*]; done) | (simp [M.isEmpty_bne]; done)), H', ⟨by first | omega | exact Nat.le_refl _⟩, ⟨M.up HB⟩⟩
      · rw [if_neg c10] at H
        have c10b0 : (t176 == 0) = false := beq_eq_false_iff_ne.mpr c10
        have c10b1 : (t176 != 0) = true := bne_iff_ne.mpr c10
        (first | rw [c10b0] | (simp only [i64_w, i32_w]; rw [c10b0]) | skip)
        have H' := Aside0.mk H
        clear H
        go_wp2_with (first | ((with_reducible refine gate_callee (f := 7) rfl ?_); refine M.goes (some 17) Try.func7 #[.slice A0 l0.length c0] rfl ?_; (with_reducible refine (pleachref37_Few.calls k _ _ l0 true _ ?side1 ?side2 A7.out).mono ?_); (case side1 => exact M.cB HR0 HB); (case side2 => exact HC0.out); rintro e w19 ⟨rfl, hb⟩; refine ⟨_, rfl, ?_⟩; have n0_ := M.upS HB hb; clear HB; have HB := n0_; clear n0_; (try clear hb)) | (go_at_call 8; (with_reducible refine (pleachref37_Wrong.calls _ _ l0 t176 _ ?side1 ?side2 A9.out).mono ?_); (case side1 => exact M.cB HR0 HB); (case side2 => exact HC0.out); rintro e w20 ⟨rfl, hb⟩; have n0_ := M.upS HB hb; clear HB; have HB := n0_; clear n0_; (try clear hb); (try clear hb2); (try clear hk); (try clear hi)))
        go_meet
        case rel => exact ⟨_, (true), (by first | rfl | (simp; done) | (simp [*]; done) | (simp [M.isEmpty_bne]; done)), H', ⟨by first | omega | exact Nat.le_refl _⟩, ⟨M.up HB⟩⟩
    · replace c8 := Bool.eq_false_iff.mpr c8
      subst c8
      have H1 : (pleachlaw37_RefsSets.j0 k l0 a1 a2 a3 a4 true) = some r := by rw [if_neg (show ¬ (false = true) by decide)] at H; exact H
      clear H
      have H := H1
      clear H1
      have H' := Aside0.mk H
      clear H
      go_wp2_with (first | ((with_reducible refine gate_callee (f := 7) rfl ?_); refine M.goes (some 17) Try.func7 #[.slice A0 l0.length c0] rfl ?_; (with_reducible refine (pleachref37_Few.calls k _ _ l0 false _ ?side1 ?side2 A7.out).mono ?_); (case side1 => exact M.cB HR0 HB); (case side2 => exact HC0.out); rintro e w21 ⟨rfl, hb⟩; refine ⟨_, rfl, ?_⟩; have n0_ := M.upS HB hb; clear HB; have HB := n0_; clear n0_; (try clear hb)))
      go_meet
      case rel => exact ⟨_, (true), (by first | rfl | (simp; done) | (simp [*]; done) | (simp [M.isEmpty_bne]; done)), H', ⟨by first | omega | exact Nat.le_refl _⟩, ⟨M.up HB⟩⟩
  case rest =>
    clear HC6
    try clear c1
    try clear p2
    try clear c3
    try clear c7
    try clear c8
    try clear c10
    try clear c10b0
    try clear c10b1
    try clear c11
    try clear c11b0
    try clear c11b1
    try clear c14
    try clear c14b0
    try clear c14b1
    obtain ⟨kq, x38_5, rfl, HA, HJ5, HB⟩ := hcut
    cases kq with
    | zero => exact absurd HA.out (by simp [pleachlaw37_RefsSets.j0])
    | succ kj5 =>
      have H := HA.out
      clear HA
      simp only [pleachlaw37_RefsSets.j0] at H
      by_cases c22 : x38_5 = true
      · subst c22
        have H1 : ((pleachlaw37_awake.f).bind fun t177 => (some t177)) = some r := by rw [if_pos rfl] at H; exact H
        clear H
        have H := H1
        clear H1
        replace H := Option.bind_eq_some_iff.mp H
        obtain ⟨t177, A230, H⟩ := H
        replace H : (some t177) = some r := H
        have A23 := Aside0.mk A230
        clear A230
        obtain rfl := Option.some.inj H
        go_wp2_with (first | ((with_reducible refine gate_callee (f := 9) rfl ?_); refine M.goes (some 39) Try.func9 #[] rfl ?_; (with_reducible refine (pleachlaw37_awake.calls  t177 _ A23.out).mono ?_); rintro e w24 ⟨rfl, hb⟩; refine ⟨_, rfl, ?_⟩; have n0_ := M.upS HB hb; clear HB; have HB := n0_; clear n0_; (try clear hb)))
        go_ret
        exact M.fin (M.up HB)
      · replace c22 := Bool.eq_false_iff.mpr c22
        subst c22
        have H1 : ((some (([] : List (S42)) : List (S42))).bind fun y178 => (if y178.length + l0.length < 3518437208883 then ((refs_Set.f l0 a1 a2 a3 a4).bind fun bt184 => ((pleachref37_Set.f l0 a1 a2 a3 a4).bind fun bt188 => ((pleachref37_Same.f kj5 bt184.1 bt188.1).bind fun t192 => (if t192 = true then (if bt184.2 = bt188.2 then ((refs_Get.f l0 a1 a2).bind fun t193 => ((pleachref37_Get.f l0 a1 a2).bind fun t194 => (if t193.toList = t194.toList then ((pleachref37_Same.f kj5 l0 (y178 ++ l0)).bind fun t195 => (if t195 = true then (if bt184.2 = 0 then ((pleachref37_Wrong.f bt184.1).bind fun t196 => (if t196 = 0 then ((pleachlaw37_awake.f).bind fun t197 => (some t197)) else (some false))) else ((pleachlaw37_awake.f).bind fun t198 => (some t198))) else (some false))) else (some false)))) else (some false)) else (some false))))) else (none))) = some r := by rw [if_neg (show ¬ (false = true) by decide)] at H; exact H
        clear H
        have H := H1
        clear H1
        obtain ⟨y178, hy178⟩ : ∃ y_ : List (S42), y_ = (([] : List (S42))) := ⟨_, rfl⟩
        replace H : (if y178.length + l0.length < 3518437208883 then ((refs_Set.f l0 a1 a2 a3 a4).bind fun bt184 => ((pleachref37_Set.f l0 a1 a2 a3 a4).bind fun bt188 => ((pleachref37_Same.f kj5 bt184.1 bt188.1).bind fun t192 => (if t192 = true then (if bt184.2 = bt188.2 then ((refs_Get.f l0 a1 a2).bind fun t193 => ((pleachref37_Get.f l0 a1 a2).bind fun t194 => (if t193.toList = t194.toList then ((pleachref37_Same.f kj5 l0 (y178 ++ l0)).bind fun t195 => (if t195 = true then (if bt184.2 = 0 then ((pleachref37_Wrong.f bt184.1).bind fun t196 => (if t196 = 0 then ((pleachlaw37_awake.f).bind fun t197 => (some t197)) else (some false))) else ((pleachlaw37_awake.f).bind fun t198 => (some t198))) else (some false))) else (some false)))) else (some false)) else (some false))))) else (none)) = some r := by first | (rw [hy178]; with_reducible exact H) | (have H2_ := (Option.bind_some _ _).symm.trans H; rw [hy178]; with_reducible exact H2_) | (have H2_ := (Option.bind_some _ _).symm.trans H; with_reducible exact H2_) | with_reducible exact H | (rw [hy178]; exact H) | exact H
        have Ny178 := Aside0.mk hy178
        clear hy178
        by_cases c25 : y178.length + l0.length < 3518437208883
        · rw [if_pos c25] at H
          have LMc25 := Aside0.mk c25
          clear c25
          obtain ⟨y181, hy181⟩ : ∃ y_ : List (S42), y_ = (y178 ++ l0) := ⟨_, rfl⟩
          replace H : ((refs_Set.f l0 a1 a2 a3 a4).bind fun bt184 => ((pleachref37_Set.f l0 a1 a2 a3 a4).bind fun bt188 => ((pleachref37_Same.f kj5 bt184.1 bt188.1).bind fun t192 => (if t192 = true then (if bt184.2 = bt188.2 then ((refs_Get.f l0 a1 a2).bind fun t193 => ((pleachref37_Get.f l0 a1 a2).bind fun t194 => (if t193.toList = t194.toList then ((pleachref37_Same.f kj5 l0 y181).bind fun t195 => (if t195 = true then (if bt184.2 = 0 then ((pleachref37_Wrong.f bt184.1).bind fun t196 => (if t196 = 0 then ((pleachlaw37_awake.f).bind fun t197 => (some t197)) else (some false))) else ((pleachlaw37_awake.f).bind fun t198 => (some t198))) else (some false))) else (some false)))) else (some false)) else (some false))))) = some r := by first | (rw [hy181]; with_reducible exact H) | (have H2_ := (Option.bind_some _ _).symm.trans H; rw [hy181]; with_reducible exact H2_) | (have H2_ := (Option.bind_some _ _).symm.trans H; with_reducible exact H2_) | with_reducible exact H | (rw [hy181]; exact H) | exact H
          have Ny181 := Aside0.mk hy181
          clear hy181
          replace H := Option.bind_eq_some_iff.mp H
          obtain ⟨⟨t184, t185⟩, A260, H⟩ := H
          replace H : ((pleachref37_Set.f l0 a1 a2 a3 a4).bind fun bt188 => ((pleachref37_Same.f kj5 t184 bt188.1).bind fun t192 => (if t192 = true then (if t185 = bt188.2 then ((refs_Get.f l0 a1 a2).bind fun t193 => ((pleachref37_Get.f l0 a1 a2).bind fun t194 => (if t193.toList = t194.toList then ((pleachref37_Same.f kj5 l0 y181).bind fun t195 => (if t195 = true then (if t185 = 0 then ((pleachref37_Wrong.f t184).bind fun t196 => (if t196 = 0 then ((pleachlaw37_awake.f).bind fun t197 => (some t197)) else (some false))) else ((pleachlaw37_awake.f).bind fun t198 => (some t198))) else (some false))) else (some false)))) else (some false)) else (some false)))) = some r := H
          have A26 := Aside0.mk A260
          clear A260
          replace H := Option.bind_eq_some_iff.mp H
          obtain ⟨⟨t188, t189⟩, A270, H⟩ := H
          replace H : ((pleachref37_Same.f kj5 t184 t188).bind fun t192 => (if t192 = true then (if t185 = t189 then ((refs_Get.f l0 a1 a2).bind fun t193 => ((pleachref37_Get.f l0 a1 a2).bind fun t194 => (if t193.toList = t194.toList then ((pleachref37_Same.f kj5 l0 y181).bind fun t195 => (if t195 = true then (if t185 = 0 then ((pleachref37_Wrong.f t184).bind fun t196 => (if t196 = 0 then ((pleachlaw37_awake.f).bind fun t197 => (some t197)) else (some false))) else ((pleachlaw37_awake.f).bind fun t198 => (some t198))) else (some false))) else (some false)))) else (some false)) else (some false))) = some r := H
          have A27 := Aside0.mk A270
          clear A270
          replace H := Option.bind_eq_some_iff.mp H
          obtain ⟨t192, A280, H⟩ := H
          replace H : (if t192 = true then (if t185 = t189 then ((refs_Get.f l0 a1 a2).bind fun t193 => ((pleachref37_Get.f l0 a1 a2).bind fun t194 => (if t193.toList = t194.toList then ((pleachref37_Same.f kj5 l0 y181).bind fun t195 => (if t195 = true then (if t185 = 0 then ((pleachref37_Wrong.f t184).bind fun t196 => (if t196 = 0 then ((pleachlaw37_awake.f).bind fun t197 => (some t197)) else (some false))) else ((pleachlaw37_awake.f).bind fun t198 => (some t198))) else (some false))) else (some false)))) else (some false)) else (some false)) = some r := H
          have A28 := Aside0.mk A280
          clear A280
          by_cases c29 : t192 = true
          · subst c29
            have H1 : (if t185 = t189 then ((refs_Get.f l0 a1 a2).bind fun t193 => ((pleachref37_Get.f l0 a1 a2).bind fun t194 => (if t193.toList = t194.toList then ((pleachref37_Same.f kj5 l0 y181).bind fun t195 => (if t195 = true then (if t185 = 0 then ((pleachref37_Wrong.f t184).bind fun t196 => (if t196 = 0 then ((pleachlaw37_awake.f).bind fun t197 => (some t197)) else (some false))) else ((pleachlaw37_awake.f).bind fun t198 => (some t198))) else (some false))) else (some false)))) else (some false)) = some r := by rw [if_pos rfl] at H; exact H
            clear H
            have H := H1
            clear H1
            by_cases c30 : t185 = t189
            · rw [if_pos c30] at H
              have c30b0 : (t185 == t189) = true := beq_iff_eq.mpr c30
              have c30b1 : (t185 != t189) = false := bne_eq_false_iff_eq.mpr c30
              clear c30
              replace H := Option.bind_eq_some_iff.mp H
              obtain ⟨t193, A310, H⟩ := H
              replace H : ((pleachref37_Get.f l0 a1 a2).bind fun t194 => (if t193.toList = t194.toList then ((pleachref37_Same.f kj5 l0 y181).bind fun t195 => (if t195 = true then (if t185 = 0 then ((pleachref37_Wrong.f t184).bind fun t196 => (if t196 = 0 then ((pleachlaw37_awake.f).bind fun t197 => (some t197)) else (some false))) else ((pleachlaw37_awake.f).bind fun t198 => (some t198))) else (some false))) else (some false))) = some r := H
              have A31 := Aside0.mk A310
              clear A310
              replace H := Option.bind_eq_some_iff.mp H
              obtain ⟨t194, A320, H⟩ := H
              replace H : (if t193.toList = t194.toList then ((pleachref37_Same.f kj5 l0 y181).bind fun t195 => (if t195 = true then (if t185 = 0 then ((pleachref37_Wrong.f t184).bind fun t196 => (if t196 = 0 then ((pleachlaw37_awake.f).bind fun t197 => (some t197)) else (some false))) else ((pleachlaw37_awake.f).bind fun t198 => (some t198))) else (some false))) else (some false)) = some r := H
              have A32 := Aside0.mk A320
              clear A320
              by_cases c33 : t193.toList = t194.toList
              · rw [if_pos c33] at H
                have c33b0 : (t193.toList == t194.toList) = true := beq_iff_eq.mpr c33
                have c33b1 : (t193.toList != t194.toList) = false := bne_eq_false_iff_eq.mpr c33
                clear c33
                replace H := Option.bind_eq_some_iff.mp H
                obtain ⟨t195, A340, H⟩ := H
                replace H : (if t195 = true then (if t185 = 0 then ((pleachref37_Wrong.f t184).bind fun t196 => (if t196 = 0 then ((pleachlaw37_awake.f).bind fun t197 => (some t197)) else (some false))) else ((pleachlaw37_awake.f).bind fun t198 => (some t198))) else (some false)) = some r := H
                have A34 := Aside0.mk A340
                clear A340
                by_cases c35 : t195 = true
                · subst c35
                  have H1 : (if t185 = 0 then ((pleachref37_Wrong.f t184).bind fun t196 => (if t196 = 0 then ((pleachlaw37_awake.f).bind fun t197 => (some t197)) else (some false))) else ((pleachlaw37_awake.f).bind fun t198 => (some t198))) = some r := by rw [if_pos rfl] at H; exact H
                  clear H
                  have H := H1
                  clear H1
                  by_cases c36 : t185 = 0
                  · rw [if_pos c36] at H
                    have c36b0 : (t185 == 0) = true := beq_iff_eq.mpr c36
                    have c36b1 : (t185 != 0) = false := bne_eq_false_iff_eq.mpr c36
                    clear c36
                    replace H := Option.bind_eq_some_iff.mp H
                    obtain ⟨t196, A370, H⟩ := H
                    replace H : (if t196 = 0 then ((pleachlaw37_awake.f).bind fun t197 => (some t197)) else (some false)) = some r := H
                    have A37 := Aside0.mk A370
                    clear A370
                    by_cases c38 : t196 = 0
                    · rw [if_pos c38] at H
                      have c38b0 : (t196 == 0) = true := beq_iff_eq.mpr c38
                      have c38b1 : (t196 != 0) = false := bne_eq_false_iff_eq.mpr c38
                      clear c38
                      replace H := Option.bind_eq_some_iff.mp H
                      obtain ⟨t197, A390, H⟩ := H
                      replace H : (some t197) = some r := H
                      have A39 := Aside0.mk A390
                      clear A390
                      obtain rfl := Option.some.inj H
                      go_wp2_with (first | ((with_reducible refine gate_dst (N := 40) rfl ?_); (try (refine gate_guard (by rfl) ?_; dsimp only)); refine Kd.R_lit k42 _ 42 ?hg (N := 40) ?hd (xs := ([] : List (S42))) (inner := []) (ok := fun _ => True) (okp := fun _ => True) ?hr ?hp (fun _ hk => hk) trivial (Below.refl _ _) (Nat.le_refl _) (by simp) ?_; (case hd => rfl); (case hg => rfl); (case hr => first | (go_simp; done) | (go_simp; rfl)); (case hp => exact (Reps.none _ _)); intro v179 w40 ho41 hb hg_ hnew_; clear hg_ hnew_; (first | rw [← Ny178.out] at ho41 | (simp only [Int.reduceToNat] at ho41; rw [← Ny178.out] at ho41)); have n0_ := Aside0.mk (Kd.R_lower ho41 (below_size (M.up HB))); have n1_ := M.upS HB hb; clear HB; have HO180 := n0_; have HB := n1_; clear n0_ n1_; clear hb ho41) | ((with_reducible refine gate_builtin (b := .append) (xs := #[.tmp 40, .tmp 41]) rfl ?_); (try (refine gate_guard (by rfl) ?_; dsimp only)); at_builtin; refine Kd.R_append_rows k42 (w0 := w) w.heap.size rfl (.tmp 40) (.tmp 41) 22 42 (.agg #[(.int .i64 0), (.string ⟨#[]⟩), (.string ⟨#[]⟩)]) 40 rfl Try.underlying22 info42 rfl (by decide) (by omega) v179 y178 l0 _ _ _ (fun _ => True) (fun _ => False) rfl rfl ?aO ?aR (fun _ _ h => h) (fun _ h => h.elim) ?aF ?aB ?aS ?aL ?_; (case aR => repeat (first | exact (Kd.C_below HR0.out HB.out) | (with_reducible refine Kd.C_alloc ?_ _) | (with_reducible refine Kd.C_drewN ?_ _) | (with_reducible refine Kd.C_drew ?_))); (case aB => exact (M.up HB)); (case aF => exact (fun _ _ => trivial)); (case aO => exact (M.ro HO180)); (case aS => exact (below_size (M.up HB))); (case aL => have := LMc25.out; omega); intro v182 w42 ho hb hg hat; rw [← Ny181.out] at ho; have n0_ := Aside0.mk (hb); have n1_ := Aside0.mk (ho); clear HB HO180; have HB := n0_; have HO183 := n1_; clear n0_ n1_; clear ho hb hg hat) | ((with_reducible refine gate_callee (f := 10) rfl ?_); refine M.goes (some 49) Try.func10 #[.slice A0 l0.length c0, .int .i64 a1, .string a2, .string a3, .string a4] rfl ?_; (with_reducible refine (refs_Set.calls _ _ l0 a1 a2 a3 a4 t184 t185 _ ?side1 ?side2 A26.out).mono ?_); (case side1 => exact M.cB HR0 HB); (case side2 => exact HC0.out); rintro e w43 ⟨v186, rfl, ho0, hb⟩; refine ⟨_, rfl, ?_⟩; have n0_ := Aside0.mk (Kd.R_elder' (M.ro HO183) (Kd.R_base ho0) hb); have n1_ := Aside0.mk (Kd.R_lower (Kd.R_new' ho0 (Kd.R_lt (M.ro HO183))) (below_size (M.up HB))); have n2_ := M.upS HB hb; clear HO183 HB; have HO183 := n0_; have HO187 := n1_; have HB := n2_; clear n0_ n1_ n2_; (try clear hb); (try clear ho0)) | ((with_reducible refine gate_callee (f := 11) rfl ?_); refine M.goes (some 58) Try.func11 #[.slice A0 l0.length c0, .int .i64 a1, .string a2, .string a3, .string a4] rfl ?_; (with_reducible refine (pleachref37_Set.calls _ _ l0 a1 a2 a3 a4 t188 t189 _ ?side1 ?side2 A27.out).mono ?_); (case side1 => exact M.cB HR0 HB); (case side2 => exact HC0.out); rintro e w44 ⟨v190, rfl, ho0, hb⟩; refine ⟨_, rfl, ?_⟩; have n0_ := Aside0.mk (Kd.R_elder' (M.ro HO183) (Kd.R_base ho0) hb); have n1_ := Aside0.mk (Kd.R_elder' (M.ro HO187) (Kd.R_base ho0) hb); have n2_ := Aside0.mk (Kd.R_lower (Kd.R_new' (Kd.R_new' ho0 (Kd.R_lt (M.ro HO183))) (Kd.R_lt (M.ro HO187))) (below_size (M.up HB))); have n3_ := M.upS HB hb; clear HO183 HO187 HB; have HO183 := n0_; have HO187 := n1_; have HO191 := n2_; have HB := n3_; clear n0_ n1_ n2_ n3_; (try clear hb); (try clear ho0); obtain ⟨Ao45, co45, eo45⟩ := Kd.R_slice HO187.out; subst eo45; obtain ⟨Ao46, co46, eo46⟩ := Kd.R_slice HO191.out; subst eo46) | ((with_reducible refine gate_callee (f := 12) rfl ?_); refine M.goes (some 63) Try.func12 #[.slice Ao45 t184.length co45, .slice Ao46 t188.length co46] rfl ?_; (with_reducible refine (pleachref37_Same.calls kj5 _ _ t184 _ _ t188 true _ ?side1 ?side2 ?side3 ?side4 A28.out).mono ?_); (case side1 => repeat (first | exact (Kd.R_reads' HO187.out).2.2 | (with_reducible refine Kd.C_alloc ?_ _) | (with_reducible refine Kd.C_drewN ?_ _) | (with_reducible refine Kd.C_drew ?_))); (case side2 => exact (Kd.R_reads' HO187.out).2.1); (case side3 => repeat (first | exact (Kd.R_reads' HO191.out).2.2 | (with_reducible refine Kd.C_alloc ?_ _) | (with_reducible refine Kd.C_drewN ?_ _) | (with_reducible refine Kd.C_drew ?_))); (case side4 => exact (Kd.R_reads' HO191.out).2.1); rintro e w' ⟨rfl, ⟨nd, rfl⟩⟩; refine ⟨_, rfl, ?_⟩) | (go_at_call 13; (with_reducible refine (refs_Get.calls _ _ l0 a1 a2 t193 _ ?side1 ?side2 A31.out).mono ?_); (case side1 => repeat (first | exact (Kd.C_below HR0.out (M.up HB)) | (with_reducible refine Kd.C_alloc ?_ _) | (with_reducible refine Kd.C_drewN ?_ _) | (with_reducible refine Kd.C_drew ?_))); (case side2 => exact HC0.out); rintro e w47 ⟨rfl, hb⟩; have n0_ := M.roB HO183 hb; have n1_ := M.roB HO187 hb; have n2_ := M.roB HO191 hb; have n3_ := M.upS HB hb; clear HO183 HO187 HO191 HB; have HO183 := n0_; have HO187 := n1_; have HO191 := n2_; have HB := n3_; clear n0_ n1_ n2_ n3_; (try clear hb); (try clear hb2); (try clear hk); (try clear hi)) | (go_at_call 14; (with_reducible refine (pleachref37_Get.calls _ _ l0 a1 a2 t194 _ ?side1 ?side2 A32.out).mono ?_); (case side1 => exact M.cB HR0 HB); (case side2 => exact HC0.out); rintro e w48 ⟨rfl, hb⟩; have n0_ := M.roB HO183 hb; have n1_ := M.roB HO187 hb; have n2_ := M.roB HO191 hb; have n3_ := M.upS HB hb; clear HO183 HO187 HO191 HB; have HO183 := n0_; have HO187 := n1_; have HO191 := n2_; have HB := n3_; clear n0_ n1_ n2_ n3_; (try clear hb); (try clear hb2); (try clear hk); (try clear hi); obtain ⟨Ao49, co49, eo49⟩ := Kd.R_slice HO183.out; subst eo49) | (go_at_call 12; (with_reducible refine (pleachref37_Same.calls kj5 _ _ l0 _ _ y181 true _ ?side1 ?side2 ?side3 ?side4 A34.out).mono ?_); (case side1 => exact M.cB HR0 HB); (case side2 => exact HC0.out); (case side3 => repeat (first | exact (Kd.R_reads' HO183.out).2.2 | (with_reducible refine Kd.C_alloc ?_ _) | (with_reducible refine Kd.C_drewN ?_ _) | (with_reducible refine Kd.C_drew ?_))); (case side4 => exact (Kd.R_reads' HO183.out).2.1); rintro e w' ⟨rfl, ⟨nd, rfl⟩⟩) | (go_at_call 8; (with_reducible refine (pleachref37_Wrong.calls _ _ t184 t196 _ ?side1 ?side2 A37.out).mono ?_); (case side1 => repeat (first | exact (Kd.R_reads' HO187.out).2.2 | (with_reducible refine Kd.C_alloc ?_ _) | (with_reducible refine Kd.C_drewN ?_ _) | (with_reducible refine Kd.C_drew ?_))); (case side2 => exact (Kd.R_reads' HO187.out).2.1); rintro e w50 ⟨rfl, hb⟩; have n0_ := M.roB HO183 hb; have n1_ := M.roB HO187 hb; have n2_ := M.roB HO191 hb; have n3_ := M.upS HB hb; clear HO183 HO187 HO191 HB; have HO183 := n0_; have HO187 := n1_; have HO191 := n2_; have HB := n3_; clear n0_ n1_ n2_ n3_; (try clear hb); (try clear hb2); (try clear hk); (try clear hi)) | (go_at_call 9; (with_reducible refine (pleachlaw37_awake.calls  t197 _ A39.out).mono ?_); rintro e w51 ⟨rfl, hb⟩; have n0_ := M.roB HO183 hb; have n1_ := M.roB HO187 hb; have n2_ := M.roB HO191 hb; have n3_ := M.upS HB hb; clear HO183 HO187 HO191 HB; have HO183 := n0_; have HO187 := n1_; have HO191 := n2_; have HB := n3_; clear n0_ n1_ n2_ n3_; (try clear hb); (try clear hb2); (try clear hk); (try clear hi)))
                      go_ret
                      exact M.fin (M.up HB)
                    · rw [if_neg c38] at H
                      have c38b0 : (t196 == 0) = false := beq_eq_false_iff_ne.mpr c38
                      have c38b1 : (t196 != 0) = true := bne_iff_ne.mpr c38
                      obtain rfl := Option.some.inj H
                      go_wp2_with (first | ((with_reducible refine gate_dst (N := 40) rfl ?_); (try (refine gate_guard (by rfl) ?_; dsimp only)); refine Kd.R_lit k42 _ 42 ?hg (N := 40) ?hd (xs := ([] : List (S42))) (inner := []) (ok := fun _ => True) (okp := fun _ => True) ?hr ?hp (fun _ hk => hk) trivial (Below.refl _ _) (Nat.le_refl _) (by simp) ?_; (case hd => rfl); (case hg => rfl); (case hr => first | (go_simp; done) | (go_simp; rfl)); (case hp => exact (Reps.none _ _)); intro v179 w52 ho53 hb hg_ hnew_; clear hg_ hnew_; (first | rw [← Ny178.out] at ho53 | (simp only [Int.reduceToNat] at ho53; rw [← Ny178.out] at ho53)); have n0_ := Aside0.mk (Kd.R_lower ho53 (below_size (M.up HB))); have n1_ := M.upS HB hb; clear HB; have HO180 := n0_; have HB := n1_; clear n0_ n1_; clear hb ho53) | ((with_reducible refine gate_builtin (b := .append) (xs := #[.tmp 40, .tmp 41]) rfl ?_); (try (refine gate_guard (by rfl) ?_; dsimp only)); at_builtin; refine Kd.R_append_rows k42 (w0 := w) w.heap.size rfl (.tmp 40) (.tmp 41) 22 42 (.agg #[(.int .i64 0), (.string ⟨#[]⟩), (.string ⟨#[]⟩)]) 40 rfl Try.underlying22 info42 rfl (by decide) (by omega) v179 y178 l0 _ _ _ (fun _ => True) (fun _ => False) rfl rfl ?aO ?aR (fun _ _ h => h) (fun _ h => h.elim) ?aF ?aB ?aS ?aL ?_; (case aR => repeat (first | exact (Kd.C_below HR0.out HB.out) | (with_reducible refine Kd.C_alloc ?_ _) | (with_reducible refine Kd.C_drewN ?_ _) | (with_reducible refine Kd.C_drew ?_))); (case aB => exact (M.up HB)); (case aF => exact (fun _ _ => trivial)); (case aO => exact (M.ro HO180)); (case aS => exact (below_size (M.up HB))); (case aL => have := LMc25.out; omega); intro v182 w54 ho hb hg hat; rw [← Ny181.out] at ho; have n0_ := Aside0.mk (hb); have n1_ := Aside0.mk (ho); clear HB HO180; have HB := n0_; have HO183 := n1_; clear n0_ n1_; clear ho hb hg hat) | ((with_reducible refine gate_callee (f := 10) rfl ?_); refine M.goes (some 49) Try.func10 #[.slice A0 l0.length c0, .int .i64 a1, .string a2, .string a3, .string a4] rfl ?_; (with_reducible refine (refs_Set.calls _ _ l0 a1 a2 a3 a4 t184 t185 _ ?side1 ?side2 A26.out).mono ?_); (case side1 => exact M.cB HR0 HB); (case side2 => exact HC0.out); rintro e w55 ⟨v186, rfl, ho0, hb⟩; refine ⟨_, rfl, ?_⟩; have n0_ := Aside0.mk (Kd.R_elder' (M.ro HO183) (Kd.R_base ho0) hb); have n1_ := Aside0.mk (Kd.R_lower (Kd.R_new' ho0 (Kd.R_lt (M.ro HO183))) (below_size (M.up HB))); have n2_ := M.upS HB hb; clear HO183 HB; have HO183 := n0_; have HO187 := n1_; have HB := n2_; clear n0_ n1_ n2_; (try clear hb); (try clear ho0)) | ((with_reducible refine gate_callee (f := 11) rfl ?_); refine M.goes (some 58) Try.func11 #[.slice A0 l0.length c0, .int .i64 a1, .string a2, .string a3, .string a4] rfl ?_; (with_reducible refine (pleachref37_Set.calls _ _ l0 a1 a2 a3 a4 t188 t189 _ ?side1 ?side2 A27.out).mono ?_); (case side1 => exact M.cB HR0 HB); (case side2 => exact HC0.out); rintro e w56 ⟨v190, rfl, ho0, hb⟩; refine ⟨_, rfl, ?_⟩; have n0_ := Aside0.mk (Kd.R_elder' (M.ro HO183) (Kd.R_base ho0) hb); have n1_ := Aside0.mk (Kd.R_elder' (M.ro HO187) (Kd.R_base ho0) hb); have n2_ := Aside0.mk (Kd.R_lower (Kd.R_new' (Kd.R_new' ho0 (Kd.R_lt (M.ro HO183))) (Kd.R_lt (M.ro HO187))) (below_size (M.up HB))); have n3_ := M.upS HB hb; clear HO183 HO187 HB; have HO183 := n0_; have HO187 := n1_; have HO191 := n2_; have HB := n3_; clear n0_ n1_ n2_ n3_; (try clear hb); (try clear ho0); obtain ⟨Ao57, co57, eo57⟩ := Kd.R_slice HO187.out; subst eo57; obtain ⟨Ao58, co58, eo58⟩ := Kd.R_slice HO191.out; subst eo58) | ((with_reducible refine gate_callee (f := 12) rfl ?_); refine M.goes (some 63) Try.func12 #[.slice Ao57 t184.length co57, .slice Ao58 t188.length co58] rfl ?_; (with_reducible refine (pleachref37_Same.calls kj5 _ _ t184 _ _ t188 true _ ?side1 ?side2 ?side3 ?side4 A28.out).mono ?_); (case side1 => repeat (first | exact (Kd.R_reads' HO187.out).2.2 | (with_reducible refine Kd.C_alloc ?_ _) | (with_reducible refine Kd.C_drewN ?_ _) | (with_reducible refine Kd.C_drew ?_))); (case side2 => exact (Kd.R_reads' HO187.out).2.1); (case side3 => repeat (first | exact (Kd.R_reads' HO191.out).2.2 | (with_reducible refine Kd.C_alloc ?_ _) | (with_reducible refine Kd.C_drewN ?_ _) | (with_reducible refine Kd.C_drew ?_))); (case side4 => exact (Kd.R_reads' HO191.out).2.1); rintro e w' ⟨rfl, ⟨nd, rfl⟩⟩; refine ⟨_, rfl, ?_⟩) | (go_at_call 13; (with_reducible refine (refs_Get.calls _ _ l0 a1 a2 t193 _ ?side1 ?side2 A31.out).mono ?_); (case side1 => repeat (first | exact (Kd.C_below HR0.out (M.up HB)) | (with_reducible refine Kd.C_alloc ?_ _) | (with_reducible refine Kd.C_drewN ?_ _) | (with_reducible refine Kd.C_drew ?_))); (case side2 => exact HC0.out); rintro e w59 ⟨rfl, hb⟩; have n0_ := M.roB HO183 hb; have n1_ := M.roB HO187 hb; have n2_ := M.roB HO191 hb; have n3_ := M.upS HB hb; clear HO183 HO187 HO191 HB; have HO183 := n0_; have HO187 := n1_; have HO191 := n2_; have HB := n3_; clear n0_ n1_ n2_ n3_; (try clear hb); (try clear hb2); (try clear hk); (try clear hi)) | (go_at_call 14; (with_reducible refine (pleachref37_Get.calls _ _ l0 a1 a2 t194 _ ?side1 ?side2 A32.out).mono ?_); (case side1 => exact M.cB HR0 HB); (case side2 => exact HC0.out); rintro e w60 ⟨rfl, hb⟩; have n0_ := M.roB HO183 hb; have n1_ := M.roB HO187 hb; have n2_ := M.roB HO191 hb; have n3_ := M.upS HB hb; clear HO183 HO187 HO191 HB; have HO183 := n0_; have HO187 := n1_; have HO191 := n2_; have HB := n3_; clear n0_ n1_ n2_ n3_; (try clear hb); (try clear hb2); (try clear hk); (try clear hi); obtain ⟨Ao61, co61, eo61⟩ := Kd.R_slice HO183.out; subst eo61) | (go_at_call 12; (with_reducible refine (pleachref37_Same.calls kj5 _ _ l0 _ _ y181 true _ ?side1 ?side2 ?side3 ?side4 A34.out).mono ?_); (case side1 => exact M.cB HR0 HB); (case side2 => exact HC0.out); (case side3 => repeat (first | exact (Kd.R_reads' HO183.out).2.2 | (with_reducible refine Kd.C_alloc ?_ _) | (with_reducible refine Kd.C_drewN ?_ _) | (with_reducible refine Kd.C_drew ?_))); (case side4 => exact (Kd.R_reads' HO183.out).2.1); rintro e w' ⟨rfl, ⟨nd, rfl⟩⟩) | (go_at_call 8; (with_reducible refine (pleachref37_Wrong.calls _ _ t184 t196 _ ?side1 ?side2 A37.out).mono ?_); (case side1 => repeat (first | exact (Kd.R_reads' HO187.out).2.2 | (with_reducible refine Kd.C_alloc ?_ _) | (with_reducible refine Kd.C_drewN ?_ _) | (with_reducible refine Kd.C_drew ?_))); (case side2 => exact (Kd.R_reads' HO187.out).2.1); rintro e w62 ⟨rfl, hb⟩; have n0_ := M.roB HO183 hb; have n1_ := M.roB HO187 hb; have n2_ := M.roB HO191 hb; have n3_ := M.upS HB hb; clear HO183 HO187 HO191 HB; have HO183 := n0_; have HO187 := n1_; have HO191 := n2_; have HB := n3_; clear n0_ n1_ n2_ n3_; (try clear hb); (try clear hb2); (try clear hk); (try clear hi)))
                      go_ret
                      exact M.fin (M.up HB)
                  · rw [if_neg c36] at H
                    have c36b0 : (t185 == 0) = false := beq_eq_false_iff_ne.mpr c36
                    have c36b1 : (t185 != 0) = true := bne_iff_ne.mpr c36
                    replace H := Option.bind_eq_some_iff.mp H
                    obtain ⟨t198, A630, H⟩ := H
                    replace H : (some t198) = some r := H
                    have A63 := Aside0.mk A630
                    clear A630
                    obtain rfl := Option.some.inj H
                    go_wp2_with (first | ((with_reducible refine gate_dst (N := 40) rfl ?_); (try (refine gate_guard (by rfl) ?_; dsimp only)); refine Kd.R_lit k42 _ 42 ?hg (N := 40) ?hd (xs := ([] : List (S42))) (inner := []) (ok := fun _ => True) (okp := fun _ => True) ?hr ?hp (fun _ hk => hk) trivial (Below.refl _ _) (Nat.le_refl _) (by simp) ?_; (case hd => rfl); (case hg => rfl); (case hr => first | (go_simp; done) | (go_simp; rfl)); (case hp => exact (Reps.none _ _)); intro v179 w64 ho65 hb hg_ hnew_; clear hg_ hnew_; (first | rw [← Ny178.out] at ho65 | (simp only [Int.reduceToNat] at ho65; rw [← Ny178.out] at ho65)); have n0_ := Aside0.mk (Kd.R_lower ho65 (below_size (M.up HB))); have n1_ := M.upS HB hb; clear HB; have HO180 := n0_; have HB := n1_; clear n0_ n1_; clear hb ho65) | ((with_reducible refine gate_builtin (b := .append) (xs := #[.tmp 40, .tmp 41]) rfl ?_); (try (refine gate_guard (by rfl) ?_; dsimp only)); at_builtin; refine Kd.R_append_rows k42 (w0 := w) w.heap.size rfl (.tmp 40) (.tmp 41) 22 42 (.agg #[(.int .i64 0), (.string ⟨#[]⟩), (.string ⟨#[]⟩)]) 40 rfl Try.underlying22 info42 rfl (by decide) (by omega) v179 y178 l0 _ _ _ (fun _ => True) (fun _ => False) rfl rfl ?aO ?aR (fun _ _ h => h) (fun _ h => h.elim) ?aF ?aB ?aS ?aL ?_; (case aR => repeat (first | exact (Kd.C_below HR0.out HB.out) | (with_reducible refine Kd.C_alloc ?_ _) | (with_reducible refine Kd.C_drewN ?_ _) | (with_reducible refine Kd.C_drew ?_))); (case aB => exact (M.up HB)); (case aF => exact (fun _ _ => trivial)); (case aO => exact (M.ro HO180)); (case aS => exact (below_size (M.up HB))); (case aL => have := LMc25.out; omega); intro v182 w66 ho hb hg hat; rw [← Ny181.out] at ho; have n0_ := Aside0.mk (hb); have n1_ := Aside0.mk (ho); clear HB HO180; have HB := n0_; have HO183 := n1_; clear n0_ n1_; clear ho hb hg hat) | ((with_reducible refine gate_callee (f := 10) rfl ?_); refine M.goes (some 49) Try.func10 #[.slice A0 l0.length c0, .int .i64 a1, .string a2, .string a3, .string a4] rfl ?_; (with_reducible refine (refs_Set.calls _ _ l0 a1 a2 a3 a4 t184 t185 _ ?side1 ?side2 A26.out).mono ?_); (case side1 => exact M.cB HR0 HB); (case side2 => exact HC0.out); rintro e w67 ⟨v186, rfl, ho0, hb⟩; refine ⟨_, rfl, ?_⟩; have n0_ := Aside0.mk (Kd.R_elder' (M.ro HO183) (Kd.R_base ho0) hb); have n1_ := Aside0.mk (Kd.R_lower (Kd.R_new' ho0 (Kd.R_lt (M.ro HO183))) (below_size (M.up HB))); have n2_ := M.upS HB hb; clear HO183 HB; have HO183 := n0_; have HO187 := n1_; have HB := n2_; clear n0_ n1_ n2_; (try clear hb); (try clear ho0)) | ((with_reducible refine gate_callee (f := 11) rfl ?_); refine M.goes (some 58) Try.func11 #[.slice A0 l0.length c0, .int .i64 a1, .string a2, .string a3, .string a4] rfl ?_; (with_reducible refine (pleachref37_Set.calls _ _ l0 a1 a2 a3 a4 t188 t189 _ ?side1 ?side2 A27.out).mono ?_); (case side1 => exact M.cB HR0 HB); (case side2 => exact HC0.out); rintro e w68 ⟨v190, rfl, ho0, hb⟩; refine ⟨_, rfl, ?_⟩; have n0_ := Aside0.mk (Kd.R_elder' (M.ro HO183) (Kd.R_base ho0) hb); have n1_ := Aside0.mk (Kd.R_elder' (M.ro HO187) (Kd.R_base ho0) hb); have n2_ := Aside0.mk (Kd.R_lower (Kd.R_new' (Kd.R_new' ho0 (Kd.R_lt (M.ro HO183))) (Kd.R_lt (M.ro HO187))) (below_size (M.up HB))); have n3_ := M.upS HB hb; clear HO183 HO187 HB; have HO183 := n0_; have HO187 := n1_; have HO191 := n2_; have HB := n3_; clear n0_ n1_ n2_ n3_; (try clear hb); (try clear ho0); obtain ⟨Ao69, co69, eo69⟩ := Kd.R_slice HO187.out; subst eo69; obtain ⟨Ao70, co70, eo70⟩ := Kd.R_slice HO191.out; subst eo70) | ((with_reducible refine gate_callee (f := 12) rfl ?_); refine M.goes (some 63) Try.func12 #[.slice Ao69 t184.length co69, .slice Ao70 t188.length co70] rfl ?_; (with_reducible refine (pleachref37_Same.calls kj5 _ _ t184 _ _ t188 true _ ?side1 ?side2 ?side3 ?side4 A28.out).mono ?_); (case side1 => repeat (first | exact (Kd.R_reads' HO187.out).2.2 | (with_reducible refine Kd.C_alloc ?_ _) | (with_reducible refine Kd.C_drewN ?_ _) | (with_reducible refine Kd.C_drew ?_))); (case side2 => exact (Kd.R_reads' HO187.out).2.1); (case side3 => repeat (first | exact (Kd.R_reads' HO191.out).2.2 | (with_reducible refine Kd.C_alloc ?_ _) | (with_reducible refine Kd.C_drewN ?_ _) | (with_reducible refine Kd.C_drew ?_))); (case side4 => exact (Kd.R_reads' HO191.out).2.1); rintro e w' ⟨rfl, ⟨nd, rfl⟩⟩; refine ⟨_, rfl, ?_⟩) | (go_at_call 13; (with_reducible refine (refs_Get.calls _ _ l0 a1 a2 t193 _ ?side1 ?side2 A31.out).mono ?_); (case side1 => repeat (first | exact (Kd.C_below HR0.out (M.up HB)) | (with_reducible refine Kd.C_alloc ?_ _) | (with_reducible refine Kd.C_drewN ?_ _) | (with_reducible refine Kd.C_drew ?_))); (case side2 => exact HC0.out); rintro e w71 ⟨rfl, hb⟩; have n0_ := M.roB HO183 hb; have n1_ := M.roB HO187 hb; have n2_ := M.roB HO191 hb; have n3_ := M.upS HB hb; clear HO183 HO187 HO191 HB; have HO183 := n0_; have HO187 := n1_; have HO191 := n2_; have HB := n3_; clear n0_ n1_ n2_ n3_; (try clear hb); (try clear hb2); (try clear hk); (try clear hi)) | (go_at_call 14; (with_reducible refine (pleachref37_Get.calls _ _ l0 a1 a2 t194 _ ?side1 ?side2 A32.out).mono ?_); (case side1 => exact M.cB HR0 HB); (case side2 => exact HC0.out); rintro e w72 ⟨rfl, hb⟩; have n0_ := M.roB HO183 hb; have n1_ := M.roB HO187 hb; have n2_ := M.roB HO191 hb; have n3_ := M.upS HB hb; clear HO183 HO187 HO191 HB; have HO183 := n0_; have HO187 := n1_; have HO191 := n2_; have HB := n3_; clear n0_ n1_ n2_ n3_; (try clear hb); (try clear hb2); (try clear hk); (try clear hi); obtain ⟨Ao73, co73, eo73⟩ := Kd.R_slice HO183.out; subst eo73) | (go_at_call 12; (with_reducible refine (pleachref37_Same.calls kj5 _ _ l0 _ _ y181 true _ ?side1 ?side2 ?side3 ?side4 A34.out).mono ?_); (case side1 => exact M.cB HR0 HB); (case side2 => exact HC0.out); (case side3 => repeat (first | exact (Kd.R_reads' HO183.out).2.2 | (with_reducible refine Kd.C_alloc ?_ _) | (with_reducible refine Kd.C_drewN ?_ _) | (with_reducible refine Kd.C_drew ?_))); (case side4 => exact (Kd.R_reads' HO183.out).2.1); rintro e w' ⟨rfl, ⟨nd, rfl⟩⟩) | (go_at_call 9; (with_reducible refine (pleachlaw37_awake.calls  t198 _ A63.out).mono ?_); rintro e w74 ⟨rfl, hb⟩; have n0_ := M.roB HO183 hb; have n1_ := M.roB HO187 hb; have n2_ := M.roB HO191 hb; have n3_ := M.upS HB hb; clear HO183 HO187 HO191 HB; have HO183 := n0_; have HO187 := n1_; have HO191 := n2_; have HB := n3_; clear n0_ n1_ n2_ n3_; (try clear hb); (try clear hb2); (try clear hk); (try clear hi)))
                    go_ret
                    exact M.fin (M.up HB)
                · replace c35 := Bool.eq_false_iff.mpr c35
                  subst c35
                  have H1 : (some false) = some r := by rw [if_neg (show ¬ (false = true) by decide)] at H; exact H
                  clear H
                  have H := H1
                  clear H1
                  obtain rfl := Option.some.inj H
                  go_wp2_with (first | ((with_reducible refine gate_dst (N := 40) rfl ?_); (try (refine gate_guard (by rfl) ?_; dsimp only)); refine Kd.R_lit k42 _ 42 ?hg (N := 40) ?hd (xs := ([] : List (S42))) (inner := []) (ok := fun _ => True) (okp := fun _ => True) ?hr ?hp (fun _ hk => hk) trivial (Below.refl _ _) (Nat.le_refl _) (by simp) ?_; (case hd => rfl); (case hg => rfl); (case hr => first | (go_simp; done) | (go_simp; rfl)); (case hp => exact (Reps.none _ _)); intro v179 w75 ho76 hb hg_ hnew_; clear hg_ hnew_; (first | rw [← Ny178.out] at ho76 | (simp only [Int.reduceToNat] at ho76; rw [← Ny178.out] at ho76)); have n0_ := Aside0.mk (Kd.R_lower ho76 (below_size (M.up HB))); have n1_ := M.upS HB hb; clear HB; have HO180 := n0_; have HB := n1_; clear n0_ n1_; clear hb ho76) | ((with_reducible refine gate_builtin (b := .append) (xs := #[.tmp 40, .tmp 41]) rfl ?_); (try (refine gate_guard (by rfl) ?_; dsimp only)); at_builtin; refine Kd.R_append_rows k42 (w0 := w) w.heap.size rfl (.tmp 40) (.tmp 41) 22 42 (.agg #[(.int .i64 0), (.string ⟨#[]⟩), (.string ⟨#[]⟩)]) 40 rfl Try.underlying22 info42 rfl (by decide) (by omega) v179 y178 l0 _ _ _ (fun _ => True) (fun _ => False) rfl rfl ?aO ?aR (fun _ _ h => h) (fun _ h => h.elim) ?aF ?aB ?aS ?aL ?_; (case aR => repeat (first | exact (Kd.C_below HR0.out HB.out) | (with_reducible refine Kd.C_alloc ?_ _) | (with_reducible refine Kd.C_drewN ?_ _) | (with_reducible refine Kd.C_drew ?_))); (case aB => exact (M.up HB)); (case aF => exact (fun _ _ => trivial)); (case aO => exact (M.ro HO180)); (case aS => exact (below_size (M.up HB))); (case aL => have := LMc25.out; omega); intro v182 w77 ho hb hg hat; rw [← Ny181.out] at ho; have n0_ := Aside0.mk (hb); have n1_ := Aside0.mk (ho); clear HB HO180; have HB := n0_; have HO183 := n1_; clear n0_ n1_; clear ho hb hg hat) | ((with_reducible refine gate_callee (f := 10) rfl ?_); refine M.goes (some 49) Try.func10 #[.slice A0 l0.length c0, .int .i64 a1, .string a2, .string a3, .string a4] rfl ?_; (with_reducible refine (refs_Set.calls _ _ l0 a1 a2 a3 a4 t184 t185 _ ?side1 ?side2 A26.out).mono ?_); (case side1 => exact M.cB HR0 HB); (case side2 => exact HC0.out); rintro e w78 ⟨v186, rfl, ho0, hb⟩; refine ⟨_, rfl, ?_⟩; have n0_ := Aside0.mk (Kd.R_elder' (M.ro HO183) (Kd.R_base ho0) hb); have n1_ := Aside0.mk (Kd.R_lower (Kd.R_new' ho0 (Kd.R_lt (M.ro HO183))) (below_size (M.up HB))); have n2_ := M.upS HB hb; clear HO183 HB; have HO183 := n0_; have HO187 := n1_; have HB := n2_; clear n0_ n1_ n2_; (try clear hb); (try clear ho0)) | ((with_reducible refine gate_callee (f := 11) rfl ?_); refine M.goes (some 58) Try.func11 #[.slice A0 l0.length c0, .int .i64 a1, .string a2, .string a3, .string a4] rfl ?_; (with_reducible refine (pleachref37_Set.calls _ _ l0 a1 a2 a3 a4 t188 t189 _ ?side1 ?side2 A27.out).mono ?_); (case side1 => exact M.cB HR0 HB); (case side2 => exact HC0.out); rintro e w79 ⟨v190, rfl, ho0, hb⟩; refine ⟨_, rfl, ?_⟩; have n0_ := Aside0.mk (Kd.R_elder' (M.ro HO183) (Kd.R_base ho0) hb); have n1_ := Aside0.mk (Kd.R_elder' (M.ro HO187) (Kd.R_base ho0) hb); have n2_ := Aside0.mk (Kd.R_lower (Kd.R_new' (Kd.R_new' ho0 (Kd.R_lt (M.ro HO183))) (Kd.R_lt (M.ro HO187))) (below_size (M.up HB))); have n3_ := M.upS HB hb; clear HO183 HO187 HB; have HO183 := n0_; have HO187 := n1_; have HO191 := n2_; have HB := n3_; clear n0_ n1_ n2_ n3_; (try clear hb); (try clear ho0); obtain ⟨Ao80, co80, eo80⟩ := Kd.R_slice HO187.out; subst eo80; obtain ⟨Ao81, co81, eo81⟩ := Kd.R_slice HO191.out; subst eo81) | ((with_reducible refine gate_callee (f := 12) rfl ?_); refine M.goes (some 63) Try.func12 #[.slice Ao80 t184.length co80, .slice Ao81 t188.length co81] rfl ?_; (with_reducible refine (pleachref37_Same.calls kj5 _ _ t184 _ _ t188 true _ ?side1 ?side2 ?side3 ?side4 A28.out).mono ?_); (case side1 => repeat (first | exact (Kd.R_reads' HO187.out).2.2 | (with_reducible refine Kd.C_alloc ?_ _) | (with_reducible refine Kd.C_drewN ?_ _) | (with_reducible refine Kd.C_drew ?_))); (case side2 => exact (Kd.R_reads' HO187.out).2.1); (case side3 => repeat (first | exact (Kd.R_reads' HO191.out).2.2 | (with_reducible refine Kd.C_alloc ?_ _) | (with_reducible refine Kd.C_drewN ?_ _) | (with_reducible refine Kd.C_drew ?_))); (case side4 => exact (Kd.R_reads' HO191.out).2.1); rintro e w' ⟨rfl, ⟨nd, rfl⟩⟩; refine ⟨_, rfl, ?_⟩) | (go_at_call 13; (with_reducible refine (refs_Get.calls _ _ l0 a1 a2 t193 _ ?side1 ?side2 A31.out).mono ?_); (case side1 => repeat (first | exact (Kd.C_below HR0.out (M.up HB)) | (with_reducible refine Kd.C_alloc ?_ _) | (with_reducible refine Kd.C_drewN ?_ _) | (with_reducible refine Kd.C_drew ?_))); (case side2 => exact HC0.out); rintro e w82 ⟨rfl, hb⟩; have n0_ := M.roB HO183 hb; have n1_ := M.roB HO187 hb; have n2_ := M.roB HO191 hb; have n3_ := M.upS HB hb; clear HO183 HO187 HO191 HB; have HO183 := n0_; have HO187 := n1_; have HO191 := n2_; have HB := n3_; clear n0_ n1_ n2_ n3_; (try clear hb); (try clear hb2); (try clear hk); (try clear hi)) | (go_at_call 14; (with_reducible refine (pleachref37_Get.calls _ _ l0 a1 a2 t194 _ ?side1 ?side2 A32.out).mono ?_); (case side1 => exact M.cB HR0 HB); (case side2 => exact HC0.out); rintro e w83 ⟨rfl, hb⟩; have n0_ := M.roB HO183 hb; have n1_ := M.roB HO187 hb; have n2_ := M.roB HO191 hb; have n3_ := M.upS HB hb; clear HO183 HO187 HO191 HB; have HO183 := n0_; have HO187 := n1_; have HO191 := n2_; have HB := n3_; clear n0_ n1_ n2_ n3_; (try clear hb); (try clear hb2); (try clear hk); (try clear hi); obtain ⟨Ao84, co84, eo84⟩ := Kd.R_slice HO183.out; subst eo84) | (go_at_call 12; (with_reducible refine (pleachref37_Same.calls kj5 _ _ l0 _ _ y181 false _ ?side1 ?side2 ?side3 ?side4 A34.out).mono ?_); (case side1 => exact M.cB HR0 HB); (case side2 => exact HC0.out); (case side3 => repeat (first | exact (Kd.R_reads' HO183.out).2.2 | (with_reducible refine Kd.C_alloc ?_ _) | (with_reducible refine Kd.C_drewN ?_ _) | (with_reducible refine Kd.C_drew ?_))); (case side4 => exact (Kd.R_reads' HO183.out).2.1); rintro e w' ⟨rfl, ⟨nd, rfl⟩⟩))
                  go_ret
                  exact M.fin (M.up HB)
              · rw [if_neg c33] at H
                have c33b0 : (t193.toList == t194.toList) = false := beq_eq_false_iff_ne.mpr c33
                have c33b1 : (t193.toList != t194.toList) = true := bne_iff_ne.mpr c33
                obtain rfl := Option.some.inj H
                go_wp2_with (first | ((with_reducible refine gate_dst (N := 40) rfl ?_); (try (refine gate_guard (by rfl) ?_; dsimp only)); refine Kd.R_lit k42 _ 42 ?hg (N := 40) ?hd (xs := ([] : List (S42))) (inner := []) (ok := fun _ => True) (okp := fun _ => True) ?hr ?hp (fun _ hk => hk) trivial (Below.refl _ _) (Nat.le_refl _) (by simp) ?_; (case hd => rfl); (case hg => rfl); (case hr => first | (go_simp; done) | (go_simp; rfl)); (case hp => exact (Reps.none _ _)); intro v179 w85 ho86 hb hg_ hnew_; clear hg_ hnew_; (first | rw [← Ny178.out] at ho86 | (simp only [Int.reduceToNat] at ho86; rw [← Ny178.out] at ho86)); have n0_ := Aside0.mk (Kd.R_lower ho86 (below_size (M.up HB))); have n1_ := M.upS HB hb; clear HB; have HO180 := n0_; have HB := n1_; clear n0_ n1_; clear hb ho86) | ((with_reducible refine gate_builtin (b := .append) (xs := #[.tmp 40, .tmp 41]) rfl ?_); (try (refine gate_guard (by rfl) ?_; dsimp only)); at_builtin; refine Kd.R_append_rows k42 (w0 := w) w.heap.size rfl (.tmp 40) (.tmp 41) 22 42 (.agg #[(.int .i64 0), (.string ⟨#[]⟩), (.string ⟨#[]⟩)]) 40 rfl Try.underlying22 info42 rfl (by decide) (by omega) v179 y178 l0 _ _ _ (fun _ => True) (fun _ => False) rfl rfl ?aO ?aR (fun _ _ h => h) (fun _ h => h.elim) ?aF ?aB ?aS ?aL ?_; (case aR => repeat (first | exact (Kd.C_below HR0.out HB.out) | (with_reducible refine Kd.C_alloc ?_ _) | (with_reducible refine Kd.C_drewN ?_ _) | (with_reducible refine Kd.C_drew ?_))); (case aB => exact (M.up HB)); (case aF => exact (fun _ _ => trivial)); (case aO => exact (M.ro HO180)); (case aS => exact (below_size (M.up HB))); (case aL => have := LMc25.out; omega); intro v182 w87 ho hb hg hat; rw [← Ny181.out] at ho; have n0_ := Aside0.mk (hb); have n1_ := Aside0.mk (ho); clear HB HO180; have HB := n0_; have HO183 := n1_; clear n0_ n1_; clear ho hb hg hat) | ((with_reducible refine gate_callee (f := 10) rfl ?_); refine M.goes (some 49) Try.func10 #[.slice A0 l0.length c0, .int .i64 a1, .string a2, .string a3, .string a4] rfl ?_; (with_reducible refine (refs_Set.calls _ _ l0 a1 a2 a3 a4 t184 t185 _ ?side1 ?side2 A26.out).mono ?_); (case side1 => exact M.cB HR0 HB); (case side2 => exact HC0.out); rintro e w88 ⟨v186, rfl, ho0, hb⟩; refine ⟨_, rfl, ?_⟩; have n0_ := Aside0.mk (Kd.R_elder' (M.ro HO183) (Kd.R_base ho0) hb); have n1_ := Aside0.mk (Kd.R_lower (Kd.R_new' ho0 (Kd.R_lt (M.ro HO183))) (below_size (M.up HB))); have n2_ := M.upS HB hb; clear HO183 HB; have HO183 := n0_; have HO187 := n1_; have HB := n2_; clear n0_ n1_ n2_; (try clear hb); (try clear ho0)) | ((with_reducible refine gate_callee (f := 11) rfl ?_); refine M.goes (some 58) Try.func11 #[.slice A0 l0.length c0, .int .i64 a1, .string a2, .string a3, .string a4] rfl ?_; (with_reducible refine (pleachref37_Set.calls _ _ l0 a1 a2 a3 a4 t188 t189 _ ?side1 ?side2 A27.out).mono ?_); (case side1 => exact M.cB HR0 HB); (case side2 => exact HC0.out); rintro e w89 ⟨v190, rfl, ho0, hb⟩; refine ⟨_, rfl, ?_⟩; have n0_ := Aside0.mk (Kd.R_elder' (M.ro HO183) (Kd.R_base ho0) hb); have n1_ := Aside0.mk (Kd.R_elder' (M.ro HO187) (Kd.R_base ho0) hb); have n2_ := Aside0.mk (Kd.R_lower (Kd.R_new' (Kd.R_new' ho0 (Kd.R_lt (M.ro HO183))) (Kd.R_lt (M.ro HO187))) (below_size (M.up HB))); have n3_ := M.upS HB hb; clear HO183 HO187 HB; have HO183 := n0_; have HO187 := n1_; have HO191 := n2_; have HB := n3_; clear n0_ n1_ n2_ n3_; (try clear hb); (try clear ho0); obtain ⟨Ao90, co90, eo90⟩ := Kd.R_slice HO187.out; subst eo90; obtain ⟨Ao91, co91, eo91⟩ := Kd.R_slice HO191.out; subst eo91) | ((with_reducible refine gate_callee (f := 12) rfl ?_); refine M.goes (some 63) Try.func12 #[.slice Ao90 t184.length co90, .slice Ao91 t188.length co91] rfl ?_; (with_reducible refine (pleachref37_Same.calls kj5 _ _ t184 _ _ t188 true _ ?side1 ?side2 ?side3 ?side4 A28.out).mono ?_); (case side1 => repeat (first | exact (Kd.R_reads' HO187.out).2.2 | (with_reducible refine Kd.C_alloc ?_ _) | (with_reducible refine Kd.C_drewN ?_ _) | (with_reducible refine Kd.C_drew ?_))); (case side2 => exact (Kd.R_reads' HO187.out).2.1); (case side3 => repeat (first | exact (Kd.R_reads' HO191.out).2.2 | (with_reducible refine Kd.C_alloc ?_ _) | (with_reducible refine Kd.C_drewN ?_ _) | (with_reducible refine Kd.C_drew ?_))); (case side4 => exact (Kd.R_reads' HO191.out).2.1); rintro e w' ⟨rfl, ⟨nd, rfl⟩⟩; refine ⟨_, rfl, ?_⟩) | (go_at_call 13; (with_reducible refine (refs_Get.calls _ _ l0 a1 a2 t193 _ ?side1 ?side2 A31.out).mono ?_); (case side1 => repeat (first | exact (Kd.C_below HR0.out (M.up HB)) | (with_reducible refine Kd.C_alloc ?_ _) | (with_reducible refine Kd.C_drewN ?_ _) | (with_reducible refine Kd.C_drew ?_))); (case side2 => exact HC0.out); rintro e w92 ⟨rfl, hb⟩; have n0_ := M.roB HO183 hb; have n1_ := M.roB HO187 hb; have n2_ := M.roB HO191 hb; have n3_ := M.upS HB hb; clear HO183 HO187 HO191 HB; have HO183 := n0_; have HO187 := n1_; have HO191 := n2_; have HB := n3_; clear n0_ n1_ n2_ n3_; (try clear hb); (try clear hb2); (try clear hk); (try clear hi)) | (go_at_call 14; (with_reducible refine (pleachref37_Get.calls _ _ l0 a1 a2 t194 _ ?side1 ?side2 A32.out).mono ?_); (case side1 => exact M.cB HR0 HB); (case side2 => exact HC0.out); rintro e w93 ⟨rfl, hb⟩; have n0_ := M.roB HO183 hb; have n1_ := M.roB HO187 hb; have n2_ := M.roB HO191 hb; have n3_ := M.upS HB hb; clear HO183 HO187 HO191 HB; have HO183 := n0_; have HO187 := n1_; have HO191 := n2_; have HB := n3_; clear n0_ n1_ n2_ n3_; (try clear hb); (try clear hb2); (try clear hk); (try clear hi)))
                go_ret
                exact M.fin (M.up HB)
            · rw [if_neg c30] at H
              have c30b0 : (t185 == t189) = false := beq_eq_false_iff_ne.mpr c30
              have c30b1 : (t185 != t189) = true := bne_iff_ne.mpr c30
              obtain rfl := Option.some.inj H
              go_wp2_with (first | ((with_reducible refine gate_dst (N := 40) rfl ?_); (try (refine gate_guard (by rfl) ?_; dsimp only)); refine Kd.R_lit k42 _ 42 ?hg (N := 40) ?hd (xs := ([] : List (S42))) (inner := []) (ok := fun _ => True) (okp := fun _ => True) ?hr ?hp (fun _ hk => hk) trivial (Below.refl _ _) (Nat.le_refl _) (by simp) ?_; (case hd => rfl); (case hg => rfl); (case hr => first | (go_simp; done) | (go_simp; rfl)); (case hp => exact (Reps.none _ _)); intro v179 w94 ho95 hb hg_ hnew_; clear hg_ hnew_; (first | rw [← Ny178.out] at ho95 | (simp only [Int.reduceToNat] at ho95; rw [← Ny178.out] at ho95)); have n0_ := Aside0.mk (Kd.R_lower ho95 (below_size (M.up HB))); have n1_ := M.upS HB hb; clear HB; have HO180 := n0_; have HB := n1_; clear n0_ n1_; clear hb ho95) | ((with_reducible refine gate_builtin (b := .append) (xs := #[.tmp 40, .tmp 41]) rfl ?_); (try (refine gate_guard (by rfl) ?_; dsimp only)); at_builtin; refine Kd.R_append_rows k42 (w0 := w) w.heap.size rfl (.tmp 40) (.tmp 41) 22 42 (.agg #[(.int .i64 0), (.string ⟨#[]⟩), (.string ⟨#[]⟩)]) 40 rfl Try.underlying22 info42 rfl (by decide) (by omega) v179 y178 l0 _ _ _ (fun _ => True) (fun _ => False) rfl rfl ?aO ?aR (fun _ _ h => h) (fun _ h => h.elim) ?aF ?aB ?aS ?aL ?_; (case aR => repeat (first | exact (Kd.C_below HR0.out HB.out) | (with_reducible refine Kd.C_alloc ?_ _) | (with_reducible refine Kd.C_drewN ?_ _) | (with_reducible refine Kd.C_drew ?_))); (case aB => exact (M.up HB)); (case aF => exact (fun _ _ => trivial)); (case aO => exact (M.ro HO180)); (case aS => exact (below_size (M.up HB))); (case aL => have := LMc25.out; omega); intro v182 w96 ho hb hg hat; rw [← Ny181.out] at ho; have n0_ := Aside0.mk (hb); have n1_ := Aside0.mk (ho); clear HB HO180; have HB := n0_; have HO183 := n1_; clear n0_ n1_; clear ho hb hg hat) | ((with_reducible refine gate_callee (f := 10) rfl ?_); refine M.goes (some 49) Try.func10 #[.slice A0 l0.length c0, .int .i64 a1, .string a2, .string a3, .string a4] rfl ?_; (with_reducible refine (refs_Set.calls _ _ l0 a1 a2 a3 a4 t184 t185 _ ?side1 ?side2 A26.out).mono ?_); (case side1 => exact M.cB HR0 HB); (case side2 => exact HC0.out); rintro e w97 ⟨v186, rfl, ho0, hb⟩; refine ⟨_, rfl, ?_⟩; have n0_ := Aside0.mk (Kd.R_elder' (M.ro HO183) (Kd.R_base ho0) hb); have n1_ := Aside0.mk (Kd.R_lower (Kd.R_new' ho0 (Kd.R_lt (M.ro HO183))) (below_size (M.up HB))); have n2_ := M.upS HB hb; clear HO183 HB; have HO183 := n0_; have HO187 := n1_; have HB := n2_; clear n0_ n1_ n2_; (try clear hb); (try clear ho0)) | ((with_reducible refine gate_callee (f := 11) rfl ?_); refine M.goes (some 58) Try.func11 #[.slice A0 l0.length c0, .int .i64 a1, .string a2, .string a3, .string a4] rfl ?_; (with_reducible refine (pleachref37_Set.calls _ _ l0 a1 a2 a3 a4 t188 t189 _ ?side1 ?side2 A27.out).mono ?_); (case side1 => exact M.cB HR0 HB); (case side2 => exact HC0.out); rintro e w98 ⟨v190, rfl, ho0, hb⟩; refine ⟨_, rfl, ?_⟩; have n0_ := Aside0.mk (Kd.R_elder' (M.ro HO183) (Kd.R_base ho0) hb); have n1_ := Aside0.mk (Kd.R_elder' (M.ro HO187) (Kd.R_base ho0) hb); have n2_ := Aside0.mk (Kd.R_lower (Kd.R_new' (Kd.R_new' ho0 (Kd.R_lt (M.ro HO183))) (Kd.R_lt (M.ro HO187))) (below_size (M.up HB))); have n3_ := M.upS HB hb; clear HO183 HO187 HB; have HO183 := n0_; have HO187 := n1_; have HO191 := n2_; have HB := n3_; clear n0_ n1_ n2_ n3_; (try clear hb); (try clear ho0); obtain ⟨Ao99, co99, eo99⟩ := Kd.R_slice HO187.out; subst eo99; obtain ⟨Ao100, co100, eo100⟩ := Kd.R_slice HO191.out; subst eo100) | ((with_reducible refine gate_callee (f := 12) rfl ?_); refine M.goes (some 63) Try.func12 #[.slice Ao99 t184.length co99, .slice Ao100 t188.length co100] rfl ?_; (with_reducible refine (pleachref37_Same.calls kj5 _ _ t184 _ _ t188 true _ ?side1 ?side2 ?side3 ?side4 A28.out).mono ?_); (case side1 => repeat (first | exact (Kd.R_reads' HO187.out).2.2 | (with_reducible refine Kd.C_alloc ?_ _) | (with_reducible refine Kd.C_drewN ?_ _) | (with_reducible refine Kd.C_drew ?_))); (case side2 => exact (Kd.R_reads' HO187.out).2.1); (case side3 => repeat (first | exact (Kd.R_reads' HO191.out).2.2 | (with_reducible refine Kd.C_alloc ?_ _) | (with_reducible refine Kd.C_drewN ?_ _) | (with_reducible refine Kd.C_drew ?_))); (case side4 => exact (Kd.R_reads' HO191.out).2.1); rintro e w' ⟨rfl, ⟨nd, rfl⟩⟩; refine ⟨_, rfl, ?_⟩))
              go_ret
              exact M.fin (M.up HB)
          · replace c29 := Bool.eq_false_iff.mpr c29
            subst c29
            have H1 : (some false) = some r := by rw [if_neg (show ¬ (false = true) by decide)] at H; exact H
            clear H
            have H := H1
            clear H1
            obtain rfl := Option.some.inj H
            go_wp2_with (first | ((with_reducible refine gate_dst (N := 40) rfl ?_); (try (refine gate_guard (by rfl) ?_; dsimp only)); refine Kd.R_lit k42 _ 42 ?hg (N := 40) ?hd (xs := ([] : List (S42))) (inner := []) (ok := fun _ => True) (okp := fun _ => True) ?hr ?hp (fun _ hk => hk) trivial (Below.refl _ _) (Nat.le_refl _) (by simp) ?_; (case hd => rfl); (case hg => rfl); (case hr => first | (go_simp; done) | (go_simp; rfl)); (case hp => exact (Reps.none _ _)); intro v179 w101 ho102 hb hg_ hnew_; clear hg_ hnew_; (first | rw [← Ny178.out] at ho102 | (simp only [Int.reduceToNat] at ho102; rw [← Ny178.out] at ho102)); have n0_ := Aside0.mk (Kd.R_lower ho102 (below_size (M.up HB))); have n1_ := M.upS HB hb; clear HB; have HO180 := n0_; have HB := n1_; clear n0_ n1_; clear hb ho102) | ((with_reducible refine gate_builtin (b := .append) (xs := #[.tmp 40, .tmp 41]) rfl ?_); (try (refine gate_guard (by rfl) ?_; dsimp only)); at_builtin; refine Kd.R_append_rows k42 (w0 := w) w.heap.size rfl (.tmp 40) (.tmp 41) 22 42 (.agg #[(.int .i64 0), (.string ⟨#[]⟩), (.string ⟨#[]⟩)]) 40 rfl Try.underlying22 info42 rfl (by decide) (by omega) v179 y178 l0 _ _ _ (fun _ => True) (fun _ => False) rfl rfl ?aO ?aR (fun _ _ h => h) (fun _ h => h.elim) ?aF ?aB ?aS ?aL ?_; (case aR => repeat (first | exact (Kd.C_below HR0.out HB.out) | (with_reducible refine Kd.C_alloc ?_ _) | (with_reducible refine Kd.C_drewN ?_ _) | (with_reducible refine Kd.C_drew ?_))); (case aB => exact (M.up HB)); (case aF => exact (fun _ _ => trivial)); (case aO => exact (M.ro HO180)); (case aS => exact (below_size (M.up HB))); (case aL => have := LMc25.out; omega); intro v182 w103 ho hb hg hat; rw [← Ny181.out] at ho; have n0_ := Aside0.mk (hb); have n1_ := Aside0.mk (ho); clear HB HO180; have HB := n0_; have HO183 := n1_; clear n0_ n1_; clear ho hb hg hat) | ((with_reducible refine gate_callee (f := 10) rfl ?_); refine M.goes (some 49) Try.func10 #[.slice A0 l0.length c0, .int .i64 a1, .string a2, .string a3, .string a4] rfl ?_; (with_reducible refine (refs_Set.calls _ _ l0 a1 a2 a3 a4 t184 t185 _ ?side1 ?side2 A26.out).mono ?_); (case side1 => exact M.cB HR0 HB); (case side2 => exact HC0.out); rintro e w104 ⟨v186, rfl, ho0, hb⟩; refine ⟨_, rfl, ?_⟩; have n0_ := Aside0.mk (Kd.R_elder' (M.ro HO183) (Kd.R_base ho0) hb); have n1_ := Aside0.mk (Kd.R_lower (Kd.R_new' ho0 (Kd.R_lt (M.ro HO183))) (below_size (M.up HB))); have n2_ := M.upS HB hb; clear HO183 HB; have HO183 := n0_; have HO187 := n1_; have HB := n2_; clear n0_ n1_ n2_; (try clear hb); (try clear ho0)) | ((with_reducible refine gate_callee (f := 11) rfl ?_); refine M.goes (some 58) Try.func11 #[.slice A0 l0.length c0, .int .i64 a1, .string a2, .string a3, .string a4] rfl ?_; (with_reducible refine (pleachref37_Set.calls _ _ l0 a1 a2 a3 a4 t188 t189 _ ?side1 ?side2 A27.out).mono ?_); (case side1 => exact M.cB HR0 HB); (case side2 => exact HC0.out); rintro e w105 ⟨v190, rfl, ho0, hb⟩; refine ⟨_, rfl, ?_⟩; have n0_ := Aside0.mk (Kd.R_elder' (M.ro HO183) (Kd.R_base ho0) hb); have n1_ := Aside0.mk (Kd.R_elder' (M.ro HO187) (Kd.R_base ho0) hb); have n2_ := Aside0.mk (Kd.R_lower (Kd.R_new' (Kd.R_new' ho0 (Kd.R_lt (M.ro HO183))) (Kd.R_lt (M.ro HO187))) (below_size (M.up HB))); have n3_ := M.upS HB hb; clear HO183 HO187 HB; have HO183 := n0_; have HO187 := n1_; have HO191 := n2_; have HB := n3_; clear n0_ n1_ n2_ n3_; (try clear hb); (try clear ho0); obtain ⟨Ao106, co106, eo106⟩ := Kd.R_slice HO187.out; subst eo106; obtain ⟨Ao107, co107, eo107⟩ := Kd.R_slice HO191.out; subst eo107) | ((with_reducible refine gate_callee (f := 12) rfl ?_); refine M.goes (some 63) Try.func12 #[.slice Ao106 t184.length co106, .slice Ao107 t188.length co107] rfl ?_; (with_reducible refine (pleachref37_Same.calls kj5 _ _ t184 _ _ t188 false _ ?side1 ?side2 ?side3 ?side4 A28.out).mono ?_); (case side1 => repeat (first | exact (Kd.R_reads' HO187.out).2.2 | (with_reducible refine Kd.C_alloc ?_ _) | (with_reducible refine Kd.C_drewN ?_ _) | (with_reducible refine Kd.C_drew ?_))); (case side2 => exact (Kd.R_reads' HO187.out).2.1); (case side3 => repeat (first | exact (Kd.R_reads' HO191.out).2.2 | (with_reducible refine Kd.C_alloc ?_ _) | (with_reducible refine Kd.C_drewN ?_ _) | (with_reducible refine Kd.C_drew ?_))); (case side4 => exact (Kd.R_reads' HO191.out).2.1); rintro e w' ⟨rfl, ⟨nd, rfl⟩⟩; refine ⟨_, rfl, ?_⟩))
            go_ret
            exact M.fin (M.up HB)
        · rw [if_neg c25] at H
          exact absurd H (by simp)

/-- What is known of a record that came in. -/
def Good42 (x : S42) : Prop := ((Lit.int .i64 x.f0).wf = true) ∧ (x.f1.size ≤ 9223372036854775807) ∧ (x.f2.size ≤ 9223372036854775807)
/-- THE ONE PURE STATEMENT of pleachlaw37_RefsSets: this session's form. -/
def pleachlaw37_RefsSets.Pure : Prop := ∀ (l0 : List (S42)) (a1 : Int) (a2 : ByteArray) (a3 : ByteArray) (a4 : ByteArray), ((∀ y ∈ l0, Good42 y) ∧ l0.length ≤ 9223372036854775807) → ((Lit.int .i64 a1).wf = true) → (a2.size ≤ 140737488351232) → (a3.size ≤ 140737488351232) → (a4.size ≤ 140737488351232) → ∃ k, pleachlaw37_RefsSets.f k l0 a1 a2 a3 a4 = some true

end Go.Proofs.Ytkaglpjdeinbhaa.ERefsSets
