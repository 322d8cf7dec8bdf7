-- Written by this session's own program (wip/tools/ext.py) for this claim; Lean checks it.
import Derived.Test.YtacjpkfpniolmaaDoorEFrameBackx0
import Derived.Test.YtacjpkfpniolmaaDoorEFrameBackx1
import Derived.Test.YtacjpkfpniolmaaDoorEFrameBackx3
namespace Go.Proofs.YtacjpkfpniolmaaDoor.EFrameBack
open Go.RowKit Go.Proofs.YtacjpkfpniolmaaDoorW.PrintWords Go.Proofs.YtacjpkfpniolmaaDoorW.PrintLast Go.Proofs.YtacjpkfpniolmaaDoorW.PrintMore
attribute [local go_sem] M.run_leq M.run_gtr M.run_geq max2_int min2_int max_two min_two max_three min_three max_four min_four   -- for this text's walks alone
set_option linter.unusedVariables false
set_option linter.unusedSimpArgs false

/-! ### pleachplain_Texts_p: function 24 -/
def pleachplain_Texts_p.l0 : Nat → List ByteArray → List ByteArray → Int → Int → Option (Bool)
  | 0, _, _, _, _ => none
  | k + 1, x0, x1, x12, x13 => if x13 < x12 then (if 0 ≤ x13 then (if x13 < (x0.length : Int) then (if x13 < (x1.length : Int) then (if (rdOf ByteArray.empty x0 x13).toList = (rdOf ByteArray.empty x1 x13).toList then (pleachplain_Texts_p.l0 k x0 x1 x12 (wrap64 (x13 + 1))) else (some false)) else (none)) else (none)) else (none)) else (some true)
def pleachplain_Texts_p.f (k : Nat) (l0 : List ByteArray) (l1 : List ByteArray) : Option (Bool) := if (l0.length : Int) = (l1.length : Int) then (pleachplain_Texts_p.l0 k l0 l1 (l0.length : Int) 0) else (some false)
theorem pleachplain_Texts_p.mono_l : ∀ k, (∀ y0 y1 y2 y3, LeO (pleachplain_Texts_p.l0 k y0 y1 y2 y3) (pleachplain_Texts_p.l0 (k + 1) y0 y1 y2 y3))
  | 0 => fun _ _ _ _ r h => by simp [pleachplain_Texts_p.l0] at h
  | k + 1 => by
    have ih0 := pleachplain_Texts_p.mono_l k
    · intro y0 y1 y2 y3
      unfold pleachplain_Texts_p.l0
      repeat' first
      | (with_reducible exact ih0 _ _ _ _)
      | (with_reducible exact LeO.refl _)
      | (with_reducible exact LeO.none _)
      | (with_reducible refine LeO.ite ?_ ?_)
      | (with_reducible refine LeO.bind ?_ (fun _ => ?_))
      | exact ih0 _ _ _ _
      | exact LeO.none _
      | refine LeO.ite ?_ ?_
      | refine LeO.bind ?_ (fun _ => ?_)
theorem pleachplain_Texts_p.mono : ∀ a0 a1 k, LeO (pleachplain_Texts_p.f k a0 a1) (pleachplain_Texts_p.f (k + 1) a0 a1) := by
  intro a0 a1 k
  have ih0 := pleachplain_Texts_p.mono_l k
  unfold pleachplain_Texts_p.f
  repeat' first
      | (with_reducible exact ih0 _ _ _ _)
      | (with_reducible exact LeO.refl _)
      | (with_reducible exact LeO.none _)
      | (with_reducible refine LeO.ite ?_ ?_)
      | (with_reducible refine LeO.bind ?_ (fun _ => ?_))
      | exact ih0 _ _ _ _
      | exact LeO.none _
      | refine LeO.ite ?_ ?_
      | refine LeO.bind ?_ (fun _ => ?_)
set_option maxHeartbeats 8000000 in
set_option maxRecDepth 100000 in
theorem pleachplain_Texts_p.calls (k : Nat) (A0 : Option Addr) (c0 : Nat) (l0 : List ByteArray) (A1 : Option Addr) (c1 : Nat) (l1 : List ByteArray) (r : Bool) (w : World) (hr0 : Kd.C Kd.string w A0 l0.length l0) (hc0 : l0.length ≤ c0) (hr1 : Kd.C Kd.string w A1 l1.length l1) (hc1 : l1.length ≤ c1) (h : pleachplain_Texts_p.f k l0 l1 = some r) :
    Calls Tryd.prog 24 #[.slice A0 l0.length c0, .slice A1 l1.length c1] w fun e w' => e = .returned (.bool r) ∧ Drawn0 w w' := by
  have HR0 := Aside0.mk hr0
  have HC0 := Aside0.mk hc0
  clear hr0 hc0
  have HR1 := Aside0.mk hr1
  have HC1 := Aside0.mk hc1
  clear hr1 hc1
  have H : (if (l0.length : Int) = (l1.length : Int) then (pleachplain_Texts_p.l0 k l0 l1 (l0.length : Int) 0) else (some false)) = some r := h
  clear h
  by_cases c3 : (l0.length : Int) = (l1.length : Int)
  · rw [if_pos c3] at H
    have c3b0 : ((l0.length : Int) == (l1.length : Int)) = true := beq_iff_eq.mpr c3
    have c3b1 : ((l0.length : Int) != (l1.length : Int)) = false := bne_eq_false_iff_eq.mpr c3
    have c3b2 : (l0.length == l1.length) = true := by first | simpa using c3 | (simp at c3 ⊢; omega)
    clear c3
    have H' := Aside0.mk H
    clear H
    go_enter Tryd.func24, Tryd.ntmps24
    go_wp2
    repeat (go_quiet (fail); try go_wp2)
    go_loopg [13] k (fun kq v13 w' => ∃ (x13_1 : Int), v13 = .int .i64 x13_1 ∧ Aside0 (pleachplain_Texts_p.l0 kq l0 l1 (l0.length : Int) x13_1 = some r) ∧ Aside0 (kq ≤ k) ∧ Drawn0 w w')
    case atStart => exact ⟨(0), (by first | rfl | (simp; done) | (simp [*]; done) | (simp [M.isEmpty_bne]; done)), H', ⟨Nat.le_refl _⟩, by repeat (first | exact Drawn0.refl _ | apply Drawn0.step)⟩
    case round =>
      clear H'
      try clear c1
      try clear c2
      try clear p2
      try clear c3
      try clear c3b0
      try clear c3b1
      try clear c3b2
      obtain ⟨x13_1, rfl, HA, HK1, ⟨m1, rfl⟩⟩ := hrel
      cases gk with
      | zero => exact absurd HA.out (by simp [pleachplain_Texts_p.l0])
      | succ k1 =>
        have H := HA.out
        clear HA
        simp only [pleachplain_Texts_p.l0] at H
        by_cases c4 : x13_1 < (l0.length : Int)
        · rw [if_pos c4] at H
          have c4b0 : decide (x13_1 < (l0.length : Int)) = true := decide_eq_true c4
          clear c4
          by_cases c5 : 0 ≤ x13_1
          · rw [if_pos c5] at H
            have c5b0 : decide (0 ≤ x13_1) = true := decide_eq_true c5
            clear c5
            by_cases c6 : x13_1 < (l0.length : Int)
            · rw [if_pos c6] at H
              have c6b0 : decide (x13_1 < (l0.length : Int)) = true := decide_eq_true c6
              clear c6
              by_cases c7 : x13_1 < (l1.length : Int)
              · rw [if_pos c7] at H
                have c7b0 : decide (x13_1 < (l1.length : Int)) = true := decide_eq_true c7
                clear c7
                by_cases c8 : (rdOf ByteArray.empty l0 x13_1).toList = (rdOf ByteArray.empty l1 x13_1).toList
                · rw [if_pos c8] at H
                  have c8b0 : ((rdOf ByteArray.empty l0 x13_1).toList == (rdOf ByteArray.empty l1 x13_1).toList) = true := beq_iff_eq.mpr c8
                  have c8b1 : ((rdOf ByteArray.empty l0 x13_1).toList != (rdOf ByteArray.empty l1 x13_1).toList) = false := bne_eq_false_iff_eq.mpr c8
                  clear c8
                  have H' := Aside0.mk H
                  clear H
                  have p211 : 0 ≤ (x13_1 : Int) := of_decide_eq_true (by first | (with_reducible assumption) | assumption)
                  have q211 : x13_1 < (l0.length : Int) := of_decide_eq_true (by first | (with_reducible assumption) | assumption)
                  obtain ⟨ad211, e211, hx211_0⟩ := Kd.at_string HR0.out x13_1 p211 q211
                  cases e211
                  replace p211 := eq_true p211
                  replace q211 := eq_true q211
                  have p212 : 0 ≤ (x13_1 : Int) := of_decide_eq_true (by first | (with_reducible assumption) | assumption)
                  have q212 : x13_1 < (l1.length : Int) := of_decide_eq_true (by first | (with_reducible assumption) | assumption)
                  obtain ⟨ad212, e212, hx212_0⟩ := Kd.at_string HR1.out x13_1 p212 q212
                  cases e212
                  replace p212 := eq_true p212
                  replace q212 := eq_true q212
                  go_wp2
                  repeat (go_quiet (fail); try go_wp2)
                  go_roundg k1
                  case measure => have := HK1.out; omega
                  case rel => exact ⟨(wrap64 (x13_1 + 1)), (by first | rfl | (simp; done) | (simp [*]; done) | (simp [M.isEmpty_bne]; done)), H', ⟨by have := HK1.out; omega⟩, by repeat (first | exact Drawn0.refl _ | apply Drawn0.step)⟩
                · rw [if_neg c8] at H
                  have c8b0 : ((rdOf ByteArray.empty l0 x13_1).toList == (rdOf ByteArray.empty l1 x13_1).toList) = false := beq_eq_false_iff_ne.mpr c8
                  have c8b1 : ((rdOf ByteArray.empty l0 x13_1).toList != (rdOf ByteArray.empty l1 x13_1).toList) = true := bne_iff_ne.mpr c8
                  obtain rfl := Option.some.inj H
                  have p211 : 0 ≤ (x13_1 : Int) := of_decide_eq_true (by first | (with_reducible assumption) | assumption)
                  have q211 : x13_1 < (l0.length : Int) := of_decide_eq_true (by first | (with_reducible assumption) | assumption)
                  obtain ⟨ad211, e211, hx211_0⟩ := Kd.at_string HR0.out x13_1 p211 q211
                  cases e211
                  replace p211 := eq_true p211
                  replace q211 := eq_true q211
                  have p212 : 0 ≤ (x13_1 : Int) := of_decide_eq_true (by first | (with_reducible assumption) | assumption)
                  have q212 : x13_1 < (l1.length : Int) := of_decide_eq_true (by first | (with_reducible assumption) | assumption)
                  obtain ⟨ad212, e212, hx212_0⟩ := Kd.at_string HR1.out x13_1 p212 q212
                  cases e212
                  replace p212 := eq_true p212
                  replace q212 := eq_true q212
                  go_wp2
                  repeat (go_quiet (fail); try go_wp2)
                  go_ret
                  exact ⟨by first | rfl | (simp; done) | (simp [*]; done), by repeat (first | exact Drawn0.refl _ | apply Drawn0.step)⟩
              · rw [if_neg c7] at H
                exact absurd H (by simp)
            · rw [if_neg c6] at H
              exact absurd H (by simp)
          · rw [if_neg c5] at H
            exact absurd H (by simp)
        · rw [if_neg c4] at H
          have c4b0 : decide (x13_1 < (l0.length : Int)) = false := decide_eq_false c4
          clear c4
          obtain rfl := Option.some.inj H
          go_wp2
          repeat (go_quiet (fail); try go_wp2)
          go_ret
          exact ⟨by first | rfl | (simp; done) | (simp [*]; done), by repeat (first | exact Drawn0.refl _ | apply Drawn0.step)⟩
  · rw [if_neg c3] at H
    have c3b0 : ((l0.length : Int) == (l1.length : Int)) = false := beq_eq_false_iff_ne.mpr c3
    have c3b1 : ((l0.length : Int) != (l1.length : Int)) = true := bne_iff_ne.mpr c3
    have c3b2 : (l0.length == l1.length) = false := by first | simpa using c3 | (simp at c3 ⊢; omega)
    obtain rfl := Option.some.inj H
    go_enter Tryd.func24, Tryd.ntmps24
    go_wp2
    repeat (go_quiet (fail); try go_wp2)
    go_ret
    exact ⟨by first | rfl | (simp; done) | (simp [*]; done), by repeat (first | exact Drawn0.refl _ | apply Drawn0.step)⟩

-- this session's own plain form
def pleachplain_Texts.f (l0 : List ByteArray) (l1 : List ByteArray) : Option Bool := if l0.length ≤ 9223372036854775806 then some (decide (l0 = l1)) else none
theorem pleachplain_Texts.loop (l m : List ByteArray) (hl : l.length ≤ 9223372036854775806) (hm : l.length = m.length) (d : Nat) : ∀ (i : Nat), i + d = l.length →
    pleachplain_Texts_p.l0 (d + 1) l m (l.length : Int) (i : Int) = some (decide (l.drop i = m.drop i)) := by
  induction d with
  | zero =>
    intro i hi
    rw [pleachplain_Texts_p.l0, if_neg (by omega), List.drop_of_length_le (by omega), List.drop_of_length_le (by omega)]
    congr 1
  | succ d ih =>
    intro i hi
    have hlt : i < l.length := by omega
    have hlt' : i < m.length := by omega
    have hrd : rdOf ByteArray.empty l (i : Int) = l[i] := by simp [rdOf, List.getD, hlt]
    have hrd' : rdOf ByteArray.empty m (i : Int) = m[i] := by simp [rdOf, List.getD, hlt']
    rw [pleachplain_Texts_p.l0, if_pos (by omega), if_pos (by omega), if_pos (by omega), if_pos (by omega), hrd, hrd', M.wrap64_id (by omega) (by omega), show (i : Int) + 1 = ((i + 1 : Nat) : Int) from by omega, ih (i + 1) (by omega), List.drop_eq_getElem_cons hlt, List.drop_eq_getElem_cons hlt', M.toList_bs, M.toList_bs]
    by_cases h : l[i] = m[i]
    · rw [if_pos (by rw [h])]
      congr 1
      apply decide_eq_decide.2
      rw [h]
      exact ⟨fun z => by rw [z], fun z => (List.cons.inj z).2⟩
    · rw [if_neg (fun z => h (M.bs_inj z))]
      congr 1
      exact (decide_eq_false (fun z => h (List.cons.inj z).1)).symm
theorem pleachplain_Texts.ev (l m : List ByteArray) (r : Bool) (h : pleachplain_Texts.f l m = some r) : ∃ k, pleachplain_Texts_p.f k l m = some r := by
  unfold pleachplain_Texts.f at h
  split at h
  case isFalse => cases h
  case isTrue hh =>
    refine ⟨l.length + 1, ?_⟩
    rw [← h]
    unfold pleachplain_Texts_p.f
    by_cases hm : l.length = m.length
    · have := pleachplain_Texts.loop l m hh hm l.length 0 (by omega)
      rw [List.drop_zero, List.drop_zero] at this
      rw [if_pos (by omega)]
      exact this
    · rw [if_neg (by omega)]
      congr 1
      exact (decide_eq_false (fun z => hm (by rw [z]))).symm
theorem pleachplain_Texts.calls (A0 : Option Addr) (c0 : Nat) (l0 : List ByteArray) (A1 : Option Addr) (c1 : Nat) (l1 : List ByteArray) (r : Bool) (w : World) (hr0 : Kd.C Kd.string w A0 l0.length l0) (hc0 : l0.length ≤ c0) (hr1 : Kd.C Kd.string w A1 l1.length l1) (hc1 : l1.length ≤ c1) (h : pleachplain_Texts.f l0 l1 = some r) :
    Calls Tryd.prog 24 #[.slice A0 l0.length c0, .slice A1 l1.length c1] w fun e w' => e = .returned (.bool r) ∧ Drawn0 w w' := by
  obtain ⟨k, hk⟩ := pleachplain_Texts.ev _ _ _ h
  exact pleachplain_Texts_p.calls (k := k) (w := w) (h := hk) (hr0 := hr0) (hc0 := hc0) (hr1 := hr1) (hc1 := hc1)

/-! ### pleachlaw14_FrameBack: function 5 -/
def pleachlaw14_FrameBack.j0 : Nat → List ByteArray → ByteArray → Bool → Option (Bool)
  | 0, _, _, _ => none
  | k + 1, x0, x1, x18 => if x18 = true then ((pleachlaw14_awake.f).bind fun t214 => (some t214)) else ((frame_Row.f x0).bind fun bt215 => (if bt215.2 = 0 then ((frame_All.f bt215.1).bind fun bt218 => (if bt215.1.size + x1.size ≤ 9223372036854775807 then ((frame_Whole.f (bt215.1 ++ x1)).bind fun bt222 => ((pleachplain_Texts.f bt218.1 x0).bind fun t226 => (if t226 = true then (if bt218.2 = 0 then (if bt222.2 ≥ (bt215.1.size : Int) then (if (bt222.1.length : Int) ≥ (x0.length : Int) then (if 0 ≤ (mn (x0.length : Int) (bt222.1.length : Int)) then (if (mn (x0.length : Int) (bt222.1.length : Int)) ≤ (bt222.1.length : Int) then ((pleachplain_Texts.f (bt222.1.take ((mn (x0.length : Int) (bt222.1.length : Int)) : Int).toNat) x0).bind fun t231 => (if t231 = true then ((pleachlaw14_awake.f).bind fun t232 => (some t232)) else (some false))) else (none)) else (none)) else (some false)) else (some false)) else (some false)) else (some false)))) else (none))) else (if bt215.1.toList = ([] : List UInt8) then ((pleachlaw14_awake.f).bind fun t217 => (some t217)) else (some false))))
def pleachlaw14_FrameBack.f (k : Nat) (l0 : List ByteArray) (a1 : ByteArray) : Option (Bool) := (pleachlaw14_few.f l0).bind fun t213 => (if t213 = true then (pleachlaw14_FrameBack.j0 k l0 a1 (decide ((a1.size : Int) > 1000))) else (pleachlaw14_FrameBack.j0 k l0 a1 true))
theorem pleachlaw14_FrameBack.mono_l : ∀ k, (∀ y0 y1 y2, LeO (pleachlaw14_FrameBack.j0 k y0 y1 y2) (pleachlaw14_FrameBack.j0 (k + 1) y0 y1 y2))
  | 0 => fun _ _ _ r h => by simp [pleachlaw14_FrameBack.j0] at h
  | k + 1 => by
    have ih0 := pleachlaw14_FrameBack.mono_l k
    · intro y0 y1 y2
      unfold pleachlaw14_FrameBack.j0
      repeat' first
      | (with_reducible exact ih0 _ _ _)
      | (with_reducible exact LeO.refl _)
      | (with_reducible exact LeO.none _)
      | (with_reducible refine LeO.ite ?_ ?_)
      | (with_reducible refine LeO.bind ?_ (fun _ => ?_))
      | exact ih0 _ _ _
      | exact LeO.none _
      | refine LeO.ite ?_ ?_
      | refine LeO.bind ?_ (fun _ => ?_)
theorem pleachlaw14_FrameBack.mono : ∀ a0 a1 k, LeO (pleachlaw14_FrameBack.f k a0 a1) (pleachlaw14_FrameBack.f (k + 1) a0 a1) := by
  intro a0 a1 k
  have ih0 := pleachlaw14_FrameBack.mono_l k
  unfold pleachlaw14_FrameBack.f
  repeat' first
      | (with_reducible exact ih0 _ _ _)
      | (with_reducible exact LeO.refl _)
      | (with_reducible exact LeO.none _)
      | (with_reducible refine LeO.ite ?_ ?_)
      | (with_reducible refine LeO.bind ?_ (fun _ => ?_))
      | exact ih0 _ _ _
      | exact LeO.none _
      | refine LeO.ite ?_ ?_
      | refine LeO.bind ?_ (fun _ => ?_)
set_option maxHeartbeats 8000000 in
set_option maxRecDepth 100000 in
theorem pleachlaw14_FrameBack.calls (k : Nat) (A0 : Option Addr) (c0 : Nat) (l0 : List ByteArray) (a1 : ByteArray) (r : Bool) (w : World) (hr0 : Kd.C Kd.string w A0 l0.length l0) (hc0 : l0.length ≤ c0) (h : pleachlaw14_FrameBack.f k l0 a1 = some r) (hT : M.tab 0 w) :
    Calls Tryd.prog 5 #[.slice A0 l0.length c0, .string a1] w fun e w' => e = .returned (.bool r) ∧ Below w.heap.size w w' := by
  have HT := Aside0.mk hT
  clear hT
  have HR0 := Aside0.mk hr0
  have HC0 := Aside0.mk hc0
  clear hr0 hc0
  have HB := Aside0.mk (Below.refl w.heap.size w)
  have H : ((pleachlaw14_few.f l0).bind fun t213 => (if t213 = true then (pleachlaw14_FrameBack.j0 k l0 a1 (decide ((a1.size : Int) > 1000))) else (pleachlaw14_FrameBack.j0 k l0 a1 true))) = some r := h
  clear h
  have HC3 := Aside0.mk H
  clear H
  go_enter Tryd.func5, Tryd.ntmps5
  go_upto_region 1 with (fail)
  go_cut [18] (fun v18 wc => ∃ (kq : Nat) (x18_2 : Bool), v18 = .bool x18_2 ∧ Aside0 (pleachlaw14_FrameBack.j0 kq l0 a1 x18_2 = some r) ∧ Aside0 (kq ≤ k) ∧ Aside0 (Below w.heap.size w wc))
  case first =>
    have H := HC3.out
    clear HC3
    replace H := Option.bind_eq_some_iff.mp H
    obtain ⟨t213, A40, H⟩ := H
    replace H : (if t213 = true then (pleachlaw14_FrameBack.j0 k l0 a1 (decide ((a1.size : Int) > 1000))) else (pleachlaw14_FrameBack.j0 k l0 a1 true)) = some r := H
    have A4 := Aside0.mk A40
    clear A40
    by_cases c5 : t213 = true
    · subst c5
      have H1 : (pleachlaw14_FrameBack.j0 k l0 a1 (decide ((a1.size : Int) > 1000))) = some r := by rw [if_pos rfl] at H; exact H
      clear H
      have H := H1
      clear H1
      have H' := Aside0.mk H
      clear H
      go_wp2_with (first | ((with_reducible refine gate_callee (f := 6) rfl ?_); refine M.goes (some 12) Tryd.func6 #[.slice A0 l0.length c0] rfl ?_; (with_reducible refine (pleachlaw14_few.calls _ _ l0 true _ ?side1 ?side2 A4.out).mono ?_); (case side1 => exact M.cB HR0 HB); (case side2 => exact HC0.out); rintro e w6 ⟨rfl, hb⟩; refine ⟨_, rfl, ?_⟩; have n0_ := M.upS HB hb; clear HB; have HB := n0_; clear n0_; (try clear hb)))
      go_meet
      case rel => exact ⟨_, (decide ((a1.size : Int) > 1000)), (by first | rfl | (simp; done) | (simp [*]; done) | (simp [M.isEmpty_bne]; done)), H', ⟨by first | omega | exact Nat.le_refl _⟩, ⟨M.up HB⟩⟩
    · replace c5 := Bool.eq_false_iff.mpr c5
      subst c5
      have H1 : (pleachlaw14_FrameBack.j0 k l0 a1 true) = some r := by rw [if_neg (show ¬ (false = true) by decide)] at H; exact H
      clear H
      have H := H1
      clear H1
      have H' := Aside0.mk H
      clear H
      go_wp2_with (first | ((with_reducible refine gate_callee (f := 6) rfl ?_); refine M.goes (some 12) Tryd.func6 #[.slice A0 l0.length c0] rfl ?_; (with_reducible refine (pleachlaw14_few.calls _ _ l0 false _ ?side1 ?side2 A4.out).mono ?_); (case side1 => exact M.cB HR0 HB); (case side2 => exact HC0.out); rintro e w7 ⟨rfl, hb⟩; refine ⟨_, rfl, ?_⟩; have n0_ := M.upS HB hb; clear HB; have HB := n0_; clear n0_; (try clear hb)))
      go_meet
      case rel => exact ⟨_, (true), (by first | rfl | (simp; done) | (simp [*]; done) | (simp [M.isEmpty_bne]; done)), H', ⟨by first | omega | exact Nat.le_refl _⟩, ⟨M.up HB⟩⟩
  case rest =>
    clear HC3
    try clear p2
    try clear c5
    try clear c6
    obtain ⟨kq, x18_2, rfl, HA, HJ2, HB⟩ := hcut
    cases kq with
    | zero => exact absurd HA.out (by simp [pleachlaw14_FrameBack.j0])
    | succ kj2 =>
      have H := HA.out
      clear HA
      simp only [pleachlaw14_FrameBack.j0] at H
      by_cases c8 : x18_2 = true
      · subst c8
        have H1 : ((pleachlaw14_awake.f).bind fun t214 => (some t214)) = some r := by rw [if_pos rfl] at H; exact H
        clear H
        have H := H1
        clear H1
        replace H := Option.bind_eq_some_iff.mp H
        obtain ⟨t214, A90, H⟩ := H
        replace H : (some t214) = some r := H
        have A9 := Aside0.mk A90
        clear A90
        obtain rfl := Option.some.inj H
        go_wp2_with (first | ((with_reducible refine gate_callee (f := 7) rfl ?_); refine M.goes (some 19) Tryd.func7 #[] rfl ?_; (with_reducible refine (pleachlaw14_awake.calls  t214 _ A9.out (hT := M.tab_up HT (M.up HB))).mono ?_); rintro e w10 ⟨rfl, hb⟩; refine ⟨_, rfl, ?_⟩; have n0_ := M.upS HB hb; clear HB; have HB := n0_; clear n0_; (try clear hb)))
        go_ret
        exact M.fin (M.up HB)
      · replace c8 := Bool.eq_false_iff.mpr c8
        subst c8
        have H1 : ((frame_Row.f l0).bind fun bt215 => (if bt215.2 = 0 then ((frame_All.f bt215.1).bind fun bt218 => (if bt215.1.size + a1.size ≤ 9223372036854775807 then ((frame_Whole.f (bt215.1 ++ a1)).bind fun bt222 => ((pleachplain_Texts.f bt218.1 l0).bind fun t226 => (if t226 = true then (if bt218.2 = 0 then (if bt222.2 ≥ (bt215.1.size : Int) then (if (bt222.1.length : Int) ≥ (l0.length : Int) then (if 0 ≤ (mn (l0.length : Int) (bt222.1.length : Int)) then (if (mn (l0.length : Int) (bt222.1.length : Int)) ≤ (bt222.1.length : Int) then ((pleachplain_Texts.f (bt222.1.take ((mn (l0.length : Int) (bt222.1.length : Int)) : Int).toNat) l0).bind fun t231 => (if t231 = true then ((pleachlaw14_awake.f).bind fun t232 => (some t232)) else (some false))) else (none)) else (none)) else (some false)) else (some false)) else (some false)) else (some false)))) else (none))) else (if bt215.1.toList = ([] : List UInt8) then ((pleachlaw14_awake.f).bind fun t217 => (some t217)) else (some false)))) = some r := by rw [if_neg (show ¬ (false = true) by decide)] at H; exact H
        clear H
        have H := H1
        clear H1
        replace H := Option.bind_eq_some_iff.mp H
        obtain ⟨⟨t215, t216⟩, A110, H⟩ := H
        replace H : (if t216 = 0 then ((frame_All.f t215).bind fun bt218 => (if t215.size + a1.size ≤ 9223372036854775807 then ((frame_Whole.f (t215 ++ a1)).bind fun bt222 => ((pleachplain_Texts.f bt218.1 l0).bind fun t226 => (if t226 = true then (if bt218.2 = 0 then (if bt222.2 ≥ (t215.size : Int) then (if (bt222.1.length : Int) ≥ (l0.length : Int) then (if 0 ≤ (mn (l0.length : Int) (bt222.1.length : Int)) then (if (mn (l0.length : Int) (bt222.1.length : Int)) ≤ (bt222.1.length : Int) then ((pleachplain_Texts.f (bt222.1.take ((mn (l0.length : Int) (bt222.1.length : Int)) : Int).toNat) l0).bind fun t231 => (if t231 = true then ((pleachlaw14_awake.f).bind fun t232 => (some t232)) else (some false))) else (none)) else (none)) else (some false)) else (some false)) else (some false)) else (some false)))) else (none))) else (if t215.toList = ([] : List UInt8) then ((pleachlaw14_awake.f).bind fun t217 => (some t217)) else (some false))) = some r := H
        have A11 := Aside0.mk A110
        clear A110
        by_cases c12 : t216 = 0
        · rw [if_pos c12] at H
          have c12b0 : (t216 == 0) = true := beq_iff_eq.mpr c12
          have c12b1 : (t216 != 0) = false := bne_eq_false_iff_eq.mpr c12
          clear c12
          replace H := Option.bind_eq_some_iff.mp H
          obtain ⟨⟨t218, t219⟩, A130, H⟩ := H
          replace H : (if t215.size + a1.size ≤ 9223372036854775807 then ((frame_Whole.f (t215 ++ a1)).bind fun bt222 => ((pleachplain_Texts.f t218 l0).bind fun t226 => (if t226 = true then (if t219 = 0 then (if bt222.2 ≥ (t215.size : Int) then (if (bt222.1.length : Int) ≥ (l0.length : Int) then (if 0 ≤ (mn (l0.length : Int) (bt222.1.length : Int)) then (if (mn (l0.length : Int) (bt222.1.length : Int)) ≤ (bt222.1.length : Int) then ((pleachplain_Texts.f (bt222.1.take ((mn (l0.length : Int) (bt222.1.length : Int)) : Int).toNat) l0).bind fun t231 => (if t231 = true then ((pleachlaw14_awake.f).bind fun t232 => (some t232)) else (some false))) else (none)) else (none)) else (some false)) else (some false)) else (some false)) else (some false)))) else (none)) = some r := H
          have A13 := Aside0.mk A130
          clear A130
          by_cases c14 : t215.size + a1.size ≤ 9223372036854775807
          · rw [if_pos c14] at H
            have c14b0 := eq_true c14
            have c14b1 : decide (t215.size + a1.size ≤ 9223372036854775807) = true := decide_eq_true c14
            try have c14b2 : (9223372036854775807 < t215.size + a1.size) = False := eq_false (Nat.not_lt.2 c14)
            replace H := Option.bind_eq_some_iff.mp H
            obtain ⟨⟨t222, t223⟩, A150, H⟩ := H
            replace H : ((pleachplain_Texts.f t218 l0).bind fun t226 => (if t226 = true then (if t219 = 0 then (if t223 ≥ (t215.size : Int) then (if (t222.length : Int) ≥ (l0.length : Int) then (if 0 ≤ (mn (l0.length : Int) (t222.length : Int)) then (if (mn (l0.length : Int) (t222.length : Int)) ≤ (t222.length : Int) then ((pleachplain_Texts.f (t222.take ((mn (l0.length : Int) (t222.length : Int)) : Int).toNat) l0).bind fun t231 => (if t231 = true then ((pleachlaw14_awake.f).bind fun t232 => (some t232)) else (some false))) else (none)) else (none)) else (some false)) else (some false)) else (some false)) else (some false))) = some r := H
            have A15 := Aside0.mk A150
            clear A150
            replace H := Option.bind_eq_some_iff.mp H
            obtain ⟨t226, A160, H⟩ := H
            replace H : (if t226 = true then (if t219 = 0 then (if t223 ≥ (t215.size : Int) then (if (t222.length : Int) ≥ (l0.length : Int) then (if 0 ≤ (mn (l0.length : Int) (t222.length : Int)) then (if (mn (l0.length : Int) (t222.length : Int)) ≤ (t222.length : Int) then ((pleachplain_Texts.f (t222.take ((mn (l0.length : Int) (t222.length : Int)) : Int).toNat) l0).bind fun t231 => (if t231 = true then ((pleachlaw14_awake.f).bind fun t232 => (some t232)) else (some false))) else (none)) else (none)) else (some false)) else (some false)) else (some false)) else (some false)) = some r := H
            have A16 := Aside0.mk A160
            clear A160
            by_cases c17 : t226 = true
            · subst c17
              have H1 : (if t219 = 0 then (if t223 ≥ (t215.size : Int) then (if (t222.length : Int) ≥ (l0.length : Int) then (if 0 ≤ (mn (l0.length : Int) (t222.length : Int)) then (if (mn (l0.length : Int) (t222.length : Int)) ≤ (t222.length : Int) then ((pleachplain_Texts.f (t222.take ((mn (l0.length : Int) (t222.length : Int)) : Int).toNat) l0).bind fun t231 => (if t231 = true then ((pleachlaw14_awake.f).bind fun t232 => (some t232)) else (some false))) else (none)) else (none)) else (some false)) else (some false)) else (some false)) = some r := by rw [if_pos rfl] at H; exact H
              clear H
              have H := H1
              clear H1
              by_cases c18 : t219 = 0
              · rw [if_pos c18] at H
                have c18b0 : (t219 == 0) = true := beq_iff_eq.mpr c18
                have c18b1 : (t219 != 0) = false := bne_eq_false_iff_eq.mpr c18
                clear c18
                by_cases c19 : t223 ≥ (t215.size : Int)
                · rw [if_pos c19] at H
                  have c19b0 : decide ((t215.size : Int) ≤ t223) = true := decide_eq_true c19
                  clear c19
                  by_cases c20 : (t222.length : Int) ≥ (l0.length : Int)
                  · rw [if_pos c20] at H
                    have c20b0 : decide ((l0.length : Int) ≤ (t222.length : Int)) = true := decide_eq_true c20
                    have c20b1 : decide (l0.length ≤ t222.length) = true := decide_eq_true (Int.ofNat_le.mp c20)
                    clear c20
                    obtain ⟨ji21, hji21⟩ : ∃ j_ : Int, (mn (l0.length : Int) (t222.length : Int)) = j_ := ⟨_, rfl⟩
                    replace H : (if 0 ≤ (ji21) then (if (ji21) ≤ (t222.length : Int) then ((pleachplain_Texts.f (t222.take ((ji21) : Int).toNat) l0).bind fun t231 => (if t231 = true then ((pleachlaw14_awake.f).bind fun t232 => (some t232)) else (some false))) else (none)) else (none)) = some r := by first | (rw [hji21] at H; exact H) | (simp only [hji21] at H ⊢; exact H)
                    (try rw [hji21] at A11)
                    (try rw [hji21] at A13)
                    (try rw [hji21] at A15)
                    (try rw [hji21] at A16)
                    have hji21_ : (if (t222.length : Int) < (l0.length : Int) then (t222.length : Int) else (l0.length : Int)) = ji21 := hji21
                    have hji21n : (if t222.length < l0.length then (t222.length : Int) else (l0.length : Int)) = ji21 := by simpa only [Int.ofNat_lt] using hji21_
                    by_cases c22 : 0 ≤ (ji21)
                    · rw [if_pos c22] at H
                      have c22b0 := eq_true c22
                      have c22b1 : decide (0 ≤ (ji21)) = true := decide_eq_true c22
                      clear c22
                      by_cases c23 : (ji21) ≤ (t222.length : Int)
                      · rw [if_pos c23] at H
                        have c23b0 := eq_true c23
                        have c23b1 : decide ((ji21) ≤ (t222.length : Int)) = true := decide_eq_true c23
                        clear c23
                        obtain ⟨y227, hy227⟩ : ∃ y_ : List ByteArray, y_ = (t222.take ((ji21) : Int).toNat) := ⟨_, rfl⟩
                        replace H : ((pleachplain_Texts.f y227 l0).bind fun t231 => (if t231 = true then ((pleachlaw14_awake.f).bind fun t232 => (some t232)) else (some false))) = some r := by first | (rw [hy227]; with_reducible exact H) | (have H2_ := (Option.bind_some _ _).symm.trans H; rw [hy227]; with_reducible exact H2_) | (have H2_ := (Option.bind_some _ _).symm.trans H; with_reducible exact H2_) | with_reducible exact H | (rw [hy227]; exact H) | exact H
                        have Ny227 := Aside0.mk hy227
                        clear hy227
                        replace H := Option.bind_eq_some_iff.mp H
                        obtain ⟨t231, A240, H⟩ := H
                        replace H : (if t231 = true then ((pleachlaw14_awake.f).bind fun t232 => (some t232)) else (some false)) = some r := H
                        have A24 := Aside0.mk A240
                        clear A240
                        by_cases c25 : t231 = true
                        · subst c25
                          have H1 : ((pleachlaw14_awake.f).bind fun t232 => (some t232)) = some r := by rw [if_pos rfl] at H; exact H
                          clear H
                          have H := H1
                          clear H1
                          replace H := Option.bind_eq_some_iff.mp H
                          obtain ⟨t232, A260, H⟩ := H
                          replace H : (some t232) = some r := H
                          have A26 := Aside0.mk A260
                          clear A260
                          obtain rfl := Option.some.inj H
                          go_wp2_with (first | ((with_reducible refine gate_callee (f := 8) rfl ?_); refine M.goes (some 22) Tryd.func8 #[.slice A0 l0.length c0] rfl ?_; (with_reducible refine (frame_Row.calls _ _ l0 t215 t216 _ ?side1 ?side2 A11.out (hT := M.tab_up HT (M.up HB))).mono ?_); (case side1 => exact M.cB HR0 HB); (case side2 => exact HC0.out); rintro e w27 ⟨rfl, hb⟩; refine ⟨_, rfl, ?_⟩; have n0_ := M.upS HB hb; clear HB; have HB := n0_; clear n0_; (try clear hb)) | ((with_reducible refine gate_callee (f := 23) rfl ?_); refine M.goes (some 34) Tryd.func23 #[.string t215] rfl ?_; (with_reducible refine (frame_All.calls t215 t218 t219 _ A13.out (hT := M.tab_up HT (M.up HB))).mono ?_); rintro e w28 ⟨v220, rfl, ho0, hb⟩; refine ⟨_, rfl, ?_⟩; have n0_ := Aside0.mk (Kd.R_lower ho0 (below_size (M.up HB))); have n1_ := M.upS HB hb; clear HB; have HO221 := n0_; have HB := n1_; clear n0_ n1_; (try clear hb); (try clear ho0)) | ((with_reducible refine gate_callee (f := 21) rfl ?_); refine M.goes (some 41) Tryd.func21 #[.string (t215 ++ a1)] rfl ?_; (with_reducible refine (frame_Whole.calls (t215 ++ a1) t222 t223 _ A15.out (hT := M.tab_up HT (M.up HB))).mono ?_); rintro e w29 ⟨v224, rfl, ho0, hb⟩; refine ⟨_, rfl, ?_⟩; have n0_ := Aside0.mk (Kd.R_elder' (M.ro HO221) (Kd.R_base ho0) hb); have n1_ := Aside0.mk (Kd.R_lower (Kd.R_new' ho0 (Kd.R_lt (M.ro HO221))) (below_size (M.up HB))); have n2_ := M.upS HB hb; clear HO221 HB; have HO221 := n0_; have HO225 := n1_; have HB := n2_; clear n0_ n1_ n2_; (try clear hb); (try clear ho0); obtain ⟨Ao30, co30, eo30⟩ := Kd.R_slice HO221.out; subst eo30) | ((with_reducible refine gate_callee (f := 24) rfl ?_); refine M.goes (some 46) Tryd.func24 #[.slice Ao30 t218.length co30, .slice A0 l0.length c0] rfl ?_; (with_reducible refine (pleachplain_Texts.calls _ _ t218 _ _ l0 true _ ?side1 ?side2 ?side3 ?side4 A16.out).mono ?_); (case side1 => repeat (first | exact (Kd.R_reads' HO221.out).2.2 | (with_reducible refine Kd.C_alloc ?_ _) | (with_reducible refine Kd.C_drewN ?_ _) | (with_reducible refine Kd.C_drew ?_))); (case side2 => exact (Kd.R_reads' HO221.out).2.1); (case side3 => exact M.cB HR0 HB); (case side4 => exact HC0.out); rintro e w' ⟨rfl, ⟨nd, rfl⟩⟩; refine ⟨_, rfl, ?_⟩; obtain ⟨Ao31, co31, eo31⟩ := Kd.R_slice HO225.out; subst eo31; have q32 : ((ji21) : Int) ≤ ((t222.length : Int) : Int) := of_decide_eq_true (by first | (with_reducible assumption) | assumption); obtain ⟨i032, hi032, _, hsz32, _⟩ := info_parts info9; have hroom32 : t222.length ≤ co31 := (Kd.R_reads' HO225.out).2.1; have hC32 : Kd.C Kd.string _ Ao31 t222.length t222 := (Kd.R_reads' HO225.out).2.2; have hcut32 := cut_to (P := Tryd.prog) 22 9 .i64 Tryd.underlying22 hi032 Ao31 t222.length co31 (ji21) (of_decide_eq_true (by first | (with_reducible assumption) | assumption)) q32 hroom32; have hr32 := Kd.C_take (m := ((ji21) : Int).toNat) hC32 (by omega); have hy32 : y227.length = ((ji21) : Int).toNat := (by rw [Ny227.out, List.length_take]; omega); rw [← Ny227.out] at hr32; rw [← hy32] at hcut32; have HR230 := Aside0.mk hr32; have HC230 := Aside0.mk (show y227.length ≤ co31 from by omega); clear hr32 hC32 hroom32 hi032 hsz32; have KY32 := Aside0.mk hy32; clear hy32; have KL32 := Aside0.mk (show ((ji21) : Int).toNat ≤ t222.length from by omega); replace q32 := eq_true q32) | (go_at_call 24; (with_reducible refine (pleachplain_Texts.calls _ _ y227 _ _ l0 true _ ?side1 ?side2 ?side3 ?side4 A24.out).mono ?_); (case side1 => repeat (first | exact (by repeat (first | (with_reducible exact HR230.out) | (with_reducible refine Kd.C_alloc ?_ _) | (with_reducible refine Kd.C_drewN ?_ _) | (with_reducible refine Kd.C_drew ?_) | exact HR230.out)) | (with_reducible refine Kd.C_alloc ?_ _) | (with_reducible refine Kd.C_drewN ?_ _) | (with_reducible refine Kd.C_drew ?_))); (case side2 => exact HC230.out); (case side3 => repeat (first | exact (Kd.C_below HR0.out (M.up HB)) | (with_reducible refine Kd.C_alloc ?_ _) | (with_reducible refine Kd.C_drewN ?_ _) | (with_reducible refine Kd.C_drew ?_))); (case side4 => exact HC0.out); rintro e w' ⟨rfl, ⟨nd, rfl⟩⟩) | (go_at_call 7; (with_reducible refine (pleachlaw14_awake.calls  t232 _ A26.out (hT := M.tab_up HT (M.up HB))).mono ?_); rintro e w33 ⟨rfl, hb⟩; have n0_ := M.roB HO221 hb; have n1_ := M.roB HO225 hb; have n2_ := Aside0.mk (Kd.C_below (by repeat (first | (with_reducible exact HR230.out) | (with_reducible refine Kd.C_alloc ?_ _) | (with_reducible refine Kd.C_drewN ?_ _) | (with_reducible refine Kd.C_drew ?_) | exact HR230.out)) hb); have n3_ := M.upS HB hb; clear HO221 HO225 HR230 HB; have HO221 := n0_; have HO225 := n1_; have HR230 := n2_; have HB := n3_; clear n0_ n1_ n2_ n3_; (try clear hb); (try clear hb2); (try clear hk); (try clear hi)))
                          go_ret
                          exact ⟨by first | rfl | (simp [errW_none, errW_some] <;> rfl) | (simp only [← hji21]; first | rfl | (simp [errW_none, errW_some] <;> rfl)) | (simp [*, errW_none, errW_some] <;> rfl), M.up HB⟩
                        · replace c25 := Bool.eq_false_iff.mpr c25
                          subst c25
                          have H1 : (some false) = some r := by rw [if_neg (show ¬ (false = true) by decide)] at H; exact H
                          clear H
                          have H := H1
                          clear H1
                          obtain rfl := Option.some.inj H
                          go_wp2_with (first | ((with_reducible refine gate_callee (f := 8) rfl ?_); refine M.goes (some 22) Tryd.func8 #[.slice A0 l0.length c0] rfl ?_; (with_reducible refine (frame_Row.calls _ _ l0 t215 t216 _ ?side1 ?side2 A11.out (hT := M.tab_up HT (M.up HB))).mono ?_); (case side1 => exact M.cB HR0 HB); (case side2 => exact HC0.out); rintro e w34 ⟨rfl, hb⟩; refine ⟨_, rfl, ?_⟩; have n0_ := M.upS HB hb; clear HB; have HB := n0_; clear n0_; (try clear hb)) | ((with_reducible refine gate_callee (f := 23) rfl ?_); refine M.goes (some 34) Tryd.func23 #[.string t215] rfl ?_; (with_reducible refine (frame_All.calls t215 t218 t219 _ A13.out (hT := M.tab_up HT (M.up HB))).mono ?_); rintro e w35 ⟨v220, rfl, ho0, hb⟩; refine ⟨_, rfl, ?_⟩; have n0_ := Aside0.mk (Kd.R_lower ho0 (below_size (M.up HB))); have n1_ := M.upS HB hb; clear HB; have HO221 := n0_; have HB := n1_; clear n0_ n1_; (try clear hb); (try clear ho0)) | ((with_reducible refine gate_callee (f := 21) rfl ?_); refine M.goes (some 41) Tryd.func21 #[.string (t215 ++ a1)] rfl ?_; (with_reducible refine (frame_Whole.calls (t215 ++ a1) t222 t223 _ A15.out (hT := M.tab_up HT (M.up HB))).mono ?_); rintro e w36 ⟨v224, rfl, ho0, hb⟩; refine ⟨_, rfl, ?_⟩; have n0_ := Aside0.mk (Kd.R_elder' (M.ro HO221) (Kd.R_base ho0) hb); have n1_ := Aside0.mk (Kd.R_lower (Kd.R_new' ho0 (Kd.R_lt (M.ro HO221))) (below_size (M.up HB))); have n2_ := M.upS HB hb; clear HO221 HB; have HO221 := n0_; have HO225 := n1_; have HB := n2_; clear n0_ n1_ n2_; (try clear hb); (try clear ho0); obtain ⟨Ao37, co37, eo37⟩ := Kd.R_slice HO221.out; subst eo37) | ((with_reducible refine gate_callee (f := 24) rfl ?_); refine M.goes (some 46) Tryd.func24 #[.slice Ao37 t218.length co37, .slice A0 l0.length c0] rfl ?_; (with_reducible refine (pleachplain_Texts.calls _ _ t218 _ _ l0 true _ ?side1 ?side2 ?side3 ?side4 A16.out).mono ?_); (case side1 => repeat (first | exact (Kd.R_reads' HO221.out).2.2 | (with_reducible refine Kd.C_alloc ?_ _) | (with_reducible refine Kd.C_drewN ?_ _) | (with_reducible refine Kd.C_drew ?_))); (case side2 => exact (Kd.R_reads' HO221.out).2.1); (case side3 => exact M.cB HR0 HB); (case side4 => exact HC0.out); rintro e w' ⟨rfl, ⟨nd, rfl⟩⟩; refine ⟨_, rfl, ?_⟩; obtain ⟨Ao38, co38, eo38⟩ := Kd.R_slice HO225.out; subst eo38; have q39 : ((ji21) : Int) ≤ ((t222.length : Int) : Int) := of_decide_eq_true (by first | (with_reducible assumption) | assumption); obtain ⟨i039, hi039, _, hsz39, _⟩ := info_parts info9; have hroom39 : t222.length ≤ co38 := (Kd.R_reads' HO225.out).2.1; have hC39 : Kd.C Kd.string _ Ao38 t222.length t222 := (Kd.R_reads' HO225.out).2.2; have hcut39 := cut_to (P := Tryd.prog) 22 9 .i64 Tryd.underlying22 hi039 Ao38 t222.length co38 (ji21) (of_decide_eq_true (by first | (with_reducible assumption) | assumption)) q39 hroom39; have hr39 := Kd.C_take (m := ((ji21) : Int).toNat) hC39 (by omega); have hy39 : y227.length = ((ji21) : Int).toNat := (by rw [Ny227.out, List.length_take]; omega); rw [← Ny227.out] at hr39; rw [← hy39] at hcut39; have HR230 := Aside0.mk hr39; have HC230 := Aside0.mk (show y227.length ≤ co38 from by omega); clear hr39 hC39 hroom39 hi039 hsz39; have KY39 := Aside0.mk hy39; clear hy39; have KL39 := Aside0.mk (show ((ji21) : Int).toNat ≤ t222.length from by omega); replace q39 := eq_true q39) | (go_at_call 24; (with_reducible refine (pleachplain_Texts.calls _ _ y227 _ _ l0 false _ ?side1 ?side2 ?side3 ?side4 A24.out).mono ?_); (case side1 => repeat (first | exact (by repeat (first | (with_reducible exact HR230.out) | (with_reducible refine Kd.C_alloc ?_ _) | (with_reducible refine Kd.C_drewN ?_ _) | (with_reducible refine Kd.C_drew ?_) | exact HR230.out)) | (with_reducible refine Kd.C_alloc ?_ _) | (with_reducible refine Kd.C_drewN ?_ _) | (with_reducible refine Kd.C_drew ?_))); (case side2 => exact HC230.out); (case side3 => repeat (first | exact (Kd.C_below HR0.out (M.up HB)) | (with_reducible refine Kd.C_alloc ?_ _) | (with_reducible refine Kd.C_drewN ?_ _) | (with_reducible refine Kd.C_drew ?_))); (case side4 => exact HC0.out); rintro e w' ⟨rfl, ⟨nd, rfl⟩⟩))
                          go_ret
                          exact ⟨by first | rfl | (simp [errW_none, errW_some] <;> rfl) | (simp only [← hji21]; first | rfl | (simp [errW_none, errW_some] <;> rfl)) | (simp [*, errW_none, errW_some] <;> rfl), M.up HB⟩
                      · rw [if_neg c23] at H
                        exact absurd H (by simp)
                    · rw [if_neg c22] at H
                      exact absurd H (by simp)
                  · rw [if_neg c20] at H
                    have c20b0 : decide ((l0.length : Int) ≤ (t222.length : Int)) = false := decide_eq_false c20
                    have c20b1 : decide (l0.length ≤ t222.length) = false := decide_eq_false (fun h => c20 (Int.ofNat_le.mpr h))
                    clear c20
                    obtain rfl := Option.some.inj H
                    go_wp2_with (first | ((with_reducible refine gate_callee (f := 8) rfl ?_); refine M.goes (some 22) Tryd.func8 #[.slice A0 l0.length c0] rfl ?_; (with_reducible refine (frame_Row.calls _ _ l0 t215 t216 _ ?side1 ?side2 A11.out (hT := M.tab_up HT (M.up HB))).mono ?_); (case side1 => exact M.cB HR0 HB); (case side2 => exact HC0.out); rintro e w40 ⟨rfl, hb⟩; refine ⟨_, rfl, ?_⟩; have n0_ := M.upS HB hb; clear HB; have HB := n0_; clear n0_; (try clear hb)) | ((with_reducible refine gate_callee (f := 23) rfl ?_); refine M.goes (some 34) Tryd.func23 #[.string t215] rfl ?_; (with_reducible refine (frame_All.calls t215 t218 t219 _ A13.out (hT := M.tab_up HT (M.up HB))).mono ?_); rintro e w41 ⟨v220, rfl, ho0, hb⟩; refine ⟨_, rfl, ?_⟩; have n0_ := Aside0.mk (Kd.R_lower ho0 (below_size (M.up HB))); have n1_ := M.upS HB hb; clear HB; have HO221 := n0_; have HB := n1_; clear n0_ n1_; (try clear hb); (try clear ho0)) | ((with_reducible refine gate_callee (f := 21) rfl ?_); refine M.goes (some 41) Tryd.func21 #[.string (t215 ++ a1)] rfl ?_; (with_reducible refine (frame_Whole.calls (t215 ++ a1) t222 t223 _ A15.out (hT := M.tab_up HT (M.up HB))).mono ?_); rintro e w42 ⟨v224, rfl, ho0, hb⟩; refine ⟨_, rfl, ?_⟩; have n0_ := Aside0.mk (Kd.R_elder' (M.ro HO221) (Kd.R_base ho0) hb); have n1_ := Aside0.mk (Kd.R_lower (Kd.R_new' ho0 (Kd.R_lt (M.ro HO221))) (below_size (M.up HB))); have n2_ := M.upS HB hb; clear HO221 HB; have HO221 := n0_; have HO225 := n1_; have HB := n2_; clear n0_ n1_ n2_; (try clear hb); (try clear ho0); obtain ⟨Ao43, co43, eo43⟩ := Kd.R_slice HO221.out; subst eo43) | ((with_reducible refine gate_callee (f := 24) rfl ?_); refine M.goes (some 46) Tryd.func24 #[.slice Ao43 t218.length co43, .slice A0 l0.length c0] rfl ?_; (with_reducible refine (pleachplain_Texts.calls _ _ t218 _ _ l0 true _ ?side1 ?side2 ?side3 ?side4 A16.out).mono ?_); (case side1 => repeat (first | exact (Kd.R_reads' HO221.out).2.2 | (with_reducible refine Kd.C_alloc ?_ _) | (with_reducible refine Kd.C_drewN ?_ _) | (with_reducible refine Kd.C_drew ?_))); (case side2 => exact (Kd.R_reads' HO221.out).2.1); (case side3 => exact M.cB HR0 HB); (case side4 => exact HC0.out); rintro e w' ⟨rfl, ⟨nd, rfl⟩⟩; refine ⟨_, rfl, ?_⟩; obtain ⟨Ao44, co44, eo44⟩ := Kd.R_slice HO225.out; subst eo44))
                    go_ret
                    exact M.fin (M.up HB)
                · rw [if_neg c19] at H
                  have c19b0 : decide ((t215.size : Int) ≤ t223) = false := decide_eq_false c19
                  clear c19
                  obtain rfl := Option.some.inj H
                  go_wp2_with (first | ((with_reducible refine gate_callee (f := 8) rfl ?_); refine M.goes (some 22) Tryd.func8 #[.slice A0 l0.length c0] rfl ?_; (with_reducible refine (frame_Row.calls _ _ l0 t215 t216 _ ?side1 ?side2 A11.out (hT := M.tab_up HT (M.up HB))).mono ?_); (case side1 => exact M.cB HR0 HB); (case side2 => exact HC0.out); rintro e w45 ⟨rfl, hb⟩; refine ⟨_, rfl, ?_⟩; have n0_ := M.upS HB hb; clear HB; have HB := n0_; clear n0_; (try clear hb)) | ((with_reducible refine gate_callee (f := 23) rfl ?_); refine M.goes (some 34) Tryd.func23 #[.string t215] rfl ?_; (with_reducible refine (frame_All.calls t215 t218 t219 _ A13.out (hT := M.tab_up HT (M.up HB))).mono ?_); rintro e w46 ⟨v220, rfl, ho0, hb⟩; refine ⟨_, rfl, ?_⟩; have n0_ := Aside0.mk (Kd.R_lower ho0 (below_size (M.up HB))); have n1_ := M.upS HB hb; clear HB; have HO221 := n0_; have HB := n1_; clear n0_ n1_; (try clear hb); (try clear ho0)) | ((with_reducible refine gate_callee (f := 21) rfl ?_); refine M.goes (some 41) Tryd.func21 #[.string (t215 ++ a1)] rfl ?_; (with_reducible refine (frame_Whole.calls (t215 ++ a1) t222 t223 _ A15.out (hT := M.tab_up HT (M.up HB))).mono ?_); rintro e w47 ⟨v224, rfl, ho0, hb⟩; refine ⟨_, rfl, ?_⟩; have n0_ := Aside0.mk (Kd.R_elder' (M.ro HO221) (Kd.R_base ho0) hb); have n1_ := Aside0.mk (Kd.R_lower (Kd.R_new' ho0 (Kd.R_lt (M.ro HO221))) (below_size (M.up HB))); have n2_ := M.upS HB hb; clear HO221 HB; have HO221 := n0_; have HO225 := n1_; have HB := n2_; clear n0_ n1_ n2_; (try clear hb); (try clear ho0); obtain ⟨Ao48, co48, eo48⟩ := Kd.R_slice HO221.out; subst eo48) | ((with_reducible refine gate_callee (f := 24) rfl ?_); refine M.goes (some 46) Tryd.func24 #[.slice Ao48 t218.length co48, .slice A0 l0.length c0] rfl ?_; (with_reducible refine (pleachplain_Texts.calls _ _ t218 _ _ l0 true _ ?side1 ?side2 ?side3 ?side4 A16.out).mono ?_); (case side1 => repeat (first | exact (Kd.R_reads' HO221.out).2.2 | (with_reducible refine Kd.C_alloc ?_ _) | (with_reducible refine Kd.C_drewN ?_ _) | (with_reducible refine Kd.C_drew ?_))); (case side2 => exact (Kd.R_reads' HO221.out).2.1); (case side3 => exact M.cB HR0 HB); (case side4 => exact HC0.out); rintro e w' ⟨rfl, ⟨nd, rfl⟩⟩; refine ⟨_, rfl, ?_⟩))
                  go_ret
                  exact M.fin (M.up HB)
              · rw [if_neg c18] at H
                have c18b0 : (t219 == 0) = false := beq_eq_false_iff_ne.mpr c18
                have c18b1 : (t219 != 0) = true := bne_iff_ne.mpr c18
                obtain rfl := Option.some.inj H
                go_wp2_with (first | ((with_reducible refine gate_callee (f := 8) rfl ?_); refine M.goes (some 22) Tryd.func8 #[.slice A0 l0.length c0] rfl ?_; (with_reducible refine (frame_Row.calls _ _ l0 t215 t216 _ ?side1 ?side2 A11.out (hT := M.tab_up HT (M.up HB))).mono ?_); (case side1 => exact M.cB HR0 HB); (case side2 => exact HC0.out); rintro e w49 ⟨rfl, hb⟩; refine ⟨_, rfl, ?_⟩; have n0_ := M.upS HB hb; clear HB; have HB := n0_; clear n0_; (try clear hb)) | ((with_reducible refine gate_callee (f := 23) rfl ?_); refine M.goes (some 34) Tryd.func23 #[.string t215] rfl ?_; (with_reducible refine (frame_All.calls t215 t218 t219 _ A13.out (hT := M.tab_up HT (M.up HB))).mono ?_); rintro e w50 ⟨v220, rfl, ho0, hb⟩; refine ⟨_, rfl, ?_⟩; have n0_ := Aside0.mk (Kd.R_lower ho0 (below_size (M.up HB))); have n1_ := M.upS HB hb; clear HB; have HO221 := n0_; have HB := n1_; clear n0_ n1_; (try clear hb); (try clear ho0)) | ((with_reducible refine gate_callee (f := 21) rfl ?_); refine M.goes (some 41) Tryd.func21 #[.string (t215 ++ a1)] rfl ?_; (with_reducible refine (frame_Whole.calls (t215 ++ a1) t222 t223 _ A15.out (hT := M.tab_up HT (M.up HB))).mono ?_); rintro e w51 ⟨v224, rfl, ho0, hb⟩; refine ⟨_, rfl, ?_⟩; have n0_ := Aside0.mk (Kd.R_elder' (M.ro HO221) (Kd.R_base ho0) hb); have n1_ := Aside0.mk (Kd.R_lower (Kd.R_new' ho0 (Kd.R_lt (M.ro HO221))) (below_size (M.up HB))); have n2_ := M.upS HB hb; clear HO221 HB; have HO221 := n0_; have HO225 := n1_; have HB := n2_; clear n0_ n1_ n2_; (try clear hb); (try clear ho0); obtain ⟨Ao52, co52, eo52⟩ := Kd.R_slice HO221.out; subst eo52) | ((with_reducible refine gate_callee (f := 24) rfl ?_); refine M.goes (some 46) Tryd.func24 #[.slice Ao52 t218.length co52, .slice A0 l0.length c0] rfl ?_; (with_reducible refine (pleachplain_Texts.calls _ _ t218 _ _ l0 true _ ?side1 ?side2 ?side3 ?side4 A16.out).mono ?_); (case side1 => repeat (first | exact (Kd.R_reads' HO221.out).2.2 | (with_reducible refine Kd.C_alloc ?_ _) | (with_reducible refine Kd.C_drewN ?_ _) | (with_reducible refine Kd.C_drew ?_))); (case side2 => exact (Kd.R_reads' HO221.out).2.1); (case side3 => exact M.cB HR0 HB); (case side4 => exact HC0.out); rintro e w' ⟨rfl, ⟨nd, rfl⟩⟩; refine ⟨_, rfl, ?_⟩))
                go_ret
                exact M.fin (M.up HB)
            · replace c17 := Bool.eq_false_iff.mpr c17
              subst c17
              have H1 : (some false) = some r := by rw [if_neg (show ¬ (false = true) by decide)] at H; exact H
              clear H
              have H := H1
              clear H1
              obtain rfl := Option.some.inj H
              go_wp2_with (first | ((with_reducible refine gate_callee (f := 8) rfl ?_); refine M.goes (some 22) Tryd.func8 #[.slice A0 l0.length c0] rfl ?_; (with_reducible refine (frame_Row.calls _ _ l0 t215 t216 _ ?side1 ?side2 A11.out (hT := M.tab_up HT (M.up HB))).mono ?_); (case side1 => exact M.cB HR0 HB); (case side2 => exact HC0.out); rintro e w53 ⟨rfl, hb⟩; refine ⟨_, rfl, ?_⟩; have n0_ := M.upS HB hb; clear HB; have HB := n0_; clear n0_; (try clear hb)) | ((with_reducible refine gate_callee (f := 23) rfl ?_); refine M.goes (some 34) Tryd.func23 #[.string t215] rfl ?_; (with_reducible refine (frame_All.calls t215 t218 t219 _ A13.out (hT := M.tab_up HT (M.up HB))).mono ?_); rintro e w54 ⟨v220, rfl, ho0, hb⟩; refine ⟨_, rfl, ?_⟩; have n0_ := Aside0.mk (Kd.R_lower ho0 (below_size (M.up HB))); have n1_ := M.upS HB hb; clear HB; have HO221 := n0_; have HB := n1_; clear n0_ n1_; (try clear hb); (try clear ho0)) | ((with_reducible refine gate_callee (f := 21) rfl ?_); refine M.goes (some 41) Tryd.func21 #[.string (t215 ++ a1)] rfl ?_; (with_reducible refine (frame_Whole.calls (t215 ++ a1) t222 t223 _ A15.out (hT := M.tab_up HT (M.up HB))).mono ?_); rintro e w55 ⟨v224, rfl, ho0, hb⟩; refine ⟨_, rfl, ?_⟩; have n0_ := Aside0.mk (Kd.R_elder' (M.ro HO221) (Kd.R_base ho0) hb); have n1_ := Aside0.mk (Kd.R_lower (Kd.R_new' ho0 (Kd.R_lt (M.ro HO221))) (below_size (M.up HB))); have n2_ := M.upS HB hb; clear HO221 HB; have HO221 := n0_; have HO225 := n1_; have HB := n2_; clear n0_ n1_ n2_; (try clear hb); (try clear ho0); obtain ⟨Ao56, co56, eo56⟩ := Kd.R_slice HO221.out; subst eo56) | ((with_reducible refine gate_callee (f := 24) rfl ?_); refine M.goes (some 46) Tryd.func24 #[.slice Ao56 t218.length co56, .slice A0 l0.length c0] rfl ?_; (with_reducible refine (pleachplain_Texts.calls _ _ t218 _ _ l0 false _ ?side1 ?side2 ?side3 ?side4 A16.out).mono ?_); (case side1 => repeat (first | exact (Kd.R_reads' HO221.out).2.2 | (with_reducible refine Kd.C_alloc ?_ _) | (with_reducible refine Kd.C_drewN ?_ _) | (with_reducible refine Kd.C_drew ?_))); (case side2 => exact (Kd.R_reads' HO221.out).2.1); (case side3 => exact M.cB HR0 HB); (case side4 => exact HC0.out); rintro e w' ⟨rfl, ⟨nd, rfl⟩⟩; refine ⟨_, rfl, ?_⟩))
              go_ret
              exact M.fin (M.up HB)
          · rw [if_neg c14] at H
            exact absurd H (by simp)
        · rw [if_neg c12] at H
          have c12b0 : (t216 == 0) = false := beq_eq_false_iff_ne.mpr c12
          have c12b1 : (t216 != 0) = true := bne_iff_ne.mpr c12
          by_cases c57 : t215.toList = ([] : List UInt8)
          · rw [if_pos c57] at H
            have c57b0 : (t215.toList == ([] : List UInt8)) = true := beq_iff_eq.mpr c57
            have c57b1 : (t215.toList != ([] : List UInt8)) = false := bne_eq_false_iff_eq.mpr c57
            clear c57
            replace H := Option.bind_eq_some_iff.mp H
            obtain ⟨t217, A580, H⟩ := H
            replace H : (some t217) = some r := H
            have A58 := Aside0.mk A580
            clear A580
            obtain rfl := Option.some.inj H
            go_wp2_with (first | ((with_reducible refine gate_callee (f := 8) rfl ?_); refine M.goes (some 22) Tryd.func8 #[.slice A0 l0.length c0] rfl ?_; (with_reducible refine (frame_Row.calls _ _ l0 t215 t216 _ ?side1 ?side2 A11.out (hT := M.tab_up HT (M.up HB))).mono ?_); (case side1 => exact M.cB HR0 HB); (case side2 => exact HC0.out); rintro e w59 ⟨rfl, hb⟩; refine ⟨_, rfl, ?_⟩; have n0_ := M.upS HB hb; clear HB; have HB := n0_; clear n0_; (try clear hb)) | (go_at_call 7; (with_reducible refine (pleachlaw14_awake.calls  t217 _ A58.out (hT := M.tab_up HT (M.up HB))).mono ?_); rintro e w60 ⟨rfl, hb⟩; have n0_ := M.upS HB hb; clear HB; have HB := n0_; clear n0_; (try clear hb); (try clear hb2); (try clear hk); (try clear hi)))
            go_ret
            exact M.fin (M.up HB)
          · rw [if_neg c57] at H
            have c57b0 : (t215.toList == ([] : List UInt8)) = false := beq_eq_false_iff_ne.mpr c57
            have c57b1 : (t215.toList != ([] : List UInt8)) = true := bne_iff_ne.mpr c57
            obtain rfl := Option.some.inj H
            go_wp2_with (first | ((with_reducible refine gate_callee (f := 8) rfl ?_); refine M.goes (some 22) Tryd.func8 #[.slice A0 l0.length c0] rfl ?_; (with_reducible refine (frame_Row.calls _ _ l0 t215 t216 _ ?side1 ?side2 A11.out (hT := M.tab_up HT (M.up HB))).mono ?_); (case side1 => exact M.cB HR0 HB); (case side2 => exact HC0.out); rintro e w61 ⟨rfl, hb⟩; refine ⟨_, rfl, ?_⟩; have n0_ := M.upS HB hb; clear HB; have HB := n0_; clear n0_; (try clear hb)))
            go_ret
            exact M.fin (M.up HB)

/-- THE ONE PURE STATEMENT of pleachlaw14_FrameBack: this session's form. -/
def pleachlaw14_FrameBack.Pure : Prop := ∀ (l0 : List ByteArray) (a1 : ByteArray), ((∀ y ∈ l0, y.size ≤ 9223372036854775807) ∧ l0.length ≤ 9223372036854775807) → (a1.size ≤ 140737488351232) → ∃ k, pleachlaw14_FrameBack.f k l0 a1 = some true

end Go.Proofs.YtacjpkfpniolmaaDoor.EFrameBack
