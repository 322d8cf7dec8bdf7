-- Laid by this session's own program (wip/tools/fold.py): this session's texts, cut to what the claim names and put together; Lean checks it.
import Derived.Test.YtkjbhgolillidaaDoorVMarkNames1
import Derived.Test.YtkjbhgolillidaaDoorVMarkNames8
import Derived.Test.YtkjbhgolillidaaDoorVMarkNames9
import Derived.Test.YtkjbhgolillidaaDoorVMarkNames16
import Derived.Test.YtkjbhgolillidaaDoorXMarkNames1
namespace Go.Proofs.YtkjbhgolillidaaDoor.EMarkNames
open Go.RowKit Go.Proofs.YtkjbhgolillidaaDoorW.PrintWords Go.Proofs.YtkjbhgolillidaaDoorW.PrintLast Go.Proofs.YtkjbhgolillidaaDoorW.PrintMore
attribute [local go_sem] M.run_leq M.run_gtr M.run_geq max2_int min2_int max_two min_two max_three min_three max_four min_four
set_option linter.unusedVariables false
set_option linter.unusedSimpArgs false
def pleachplain_Texts_p.l0 : Nat → List ByteArray → List ByteArray → Int → Int → Option (Bool)
  | 0, _, _, _, _ => none
  | k + 1, x0, x1, x12, x13 => if x13 < x12 then (if 0 ≤ x13 then (if x13 < (x0.length : Int) then (if x13 < (x1.length : Int) then (if (rdOf ByteArray.empty x0 x13).toList = (rdOf ByteArray.empty x1 x13).toList then (pleachplain_Texts_p.l0 k x0 x1 x12 (wrap64 (x13 + 1))) else (some false)) else (none)) else (none)) else (none)) else (some true)
def pleachplain_Texts_p.f (k : Nat) (l0 : List ByteArray) (l1 : List ByteArray) : Option (Bool) := if (l0.length : Int) = (l1.length : Int) then (pleachplain_Texts_p.l0 k l0 l1 (l0.length : Int) 0) else (some false)
theorem pleachplain_Texts_p.mono_l : ∀ k, (∀ y0 y1 y2 y3, LeO (pleachplain_Texts_p.l0 k y0 y1 y2 y3) (pleachplain_Texts_p.l0 (k + 1) y0 y1 y2 y3))
  | 0 => fun _ _ _ _ r h => by simp [pleachplain_Texts_p.l0] at h
  | k + 1 => by
    have ih0 := pleachplain_Texts_p.mono_l k
    · intro y0 y1 y2 y3
      unfold pleachplain_Texts_p.l0
      repeat' first
      | (with_reducible exact ih0 _ _ _ _)
      | (with_reducible exact LeO.refl _)
      | (with_reducible exact LeO.none _)
      | (with_reducible refine LeO.ite ?_ ?_)
      | (with_reducible refine LeO.bind ?_ (fun _ => ?_))
      | exact ih0 _ _ _ _
      | exact LeO.none _
      | refine LeO.ite ?_ ?_
      | refine LeO.bind ?_ (fun _ => ?_)
theorem pleachplain_Texts_p.mono : ∀ a0 a1 k, LeO (pleachplain_Texts_p.f k a0 a1) (pleachplain_Texts_p.f (k + 1) a0 a1) := by
  intro a0 a1 k
  have ih0 := pleachplain_Texts_p.mono_l k
  unfold pleachplain_Texts_p.f
  repeat' first
      | (with_reducible exact ih0 _ _ _ _)
      | (with_reducible exact LeO.refl _)
      | (with_reducible exact LeO.none _)
      | (with_reducible refine LeO.ite ?_ ?_)
      | (with_reducible refine LeO.bind ?_ (fun _ => ?_))
      | exact ih0 _ _ _ _
      | exact LeO.none _
      | refine LeO.ite ?_ ?_
      | refine LeO.bind ?_ (fun _ => ?_)
set_option maxHeartbeats 8000000 in
set_option maxRecDepth 100000 in
theorem pleachplain_Texts_p.calls (k : Nat) (A0 : Option Addr) (c0 : Nat) (l0 : List ByteArray) (A1 : Option Addr) (c1 : Nat) (l1 : List ByteArray) (r : Bool) (w : World) (hr0 : Kd.C Kd.string w A0 l0.length l0) (hc0 : l0.length ≤ c0) (hr1 : Kd.C Kd.string w A1 l1.length l1) (hc1 : l1.length ≤ c1) (h : pleachplain_Texts_p.f k l0 l1 = some r) :
    Calls Tryd.prog 7 #[.slice A0 l0.length c0, .slice A1 l1.length c1] w fun e w' => e = .returned (.bool r) ∧ Drawn0 w w' := by
 have HR0 := Aside0.mk hr0
 have HC0 := Aside0.mk hc0
 clear hr0 hc0
 have HR1 := Aside0.mk hr1
 have HC1 := Aside0.mk hc1
 clear hr1 hc1
 have H : (if (l0.length : Int) = (l1.length : Int) then (pleachplain_Texts_p.l0 k l0 l1 (l0.length : Int) 0) else (some false)) = some r := h
 clear h
 by_cases c3 : (l0.length : Int) = (l1.length : Int)
 ·rw [if_pos c3] at H
  have c3b0 : ((l0.length : Int) == (l1.length : Int)) = true := beq_iff_eq.mpr c3
  have c3b1 : ((l0.length : Int) != (l1.length : Int)) = false := bne_eq_false_iff_eq.mpr c3
  have c3b2 : (l0.length == l1.length) = true := by first | simpa using c3 | (simp at c3 ⊢; omega)
  clear c3
  have H' := Aside0.mk H
  clear H
  go_enter Tryd.func7, Tryd.ntmps7
  go_wp2
  repeat (go_quiet (fail); try go_wp2)
  go_loopg [13] k (fun kq v13 w' => ∃ (x13_1 : Int), v13 = .int .i64 x13_1 ∧ Aside0 (pleachplain_Texts_p.l0 kq l0 l1 (l0.length : Int) x13_1 = some r) ∧ Aside0 (kq ≤ k) ∧ Drawn0 w w')
  case atStart => exact ⟨(0), M.eqv, H', ⟨Nat.le_refl _⟩, by repeat (first | exact Drawn0.refl _ | apply Drawn0.step)⟩
  case round =>
   clear H'
   (try clear c1); (try clear p2); (try clear c3); (try clear c3b0); (try clear c3b1); (try clear c3b2)
   obtain ⟨x13_1, rfl, HA, HK1, ⟨m1, rfl⟩⟩ := hrel
   cases gk with
   | zero => exact absurd HA.out (by simp [pleachplain_Texts_p.l0])
   | succ k1 =>
    have H := HA.out
    clear HA
    simp only [pleachplain_Texts_p.l0] at H
    by_cases c4 : x13_1 < (l0.length : Int)
    ·rw [if_pos c4] at H
     have c4b0 := decide_eq_true c4
     clear c4
     by_cases c5 : 0 ≤ x13_1
     ·rw [if_pos c5] at H
      have c5b0 := decide_eq_true c5
      clear c5
      by_cases c6 : x13_1 < (l0.length : Int)
      ·rw [if_pos c6] at H
       have c6b0 := decide_eq_true c6
       clear c6
       by_cases c7 : x13_1 < (l1.length : Int)
       ·rw [if_pos c7] at H
        have c7b0 := decide_eq_true c7
        clear c7
        by_cases c8 : (rdOf ByteArray.empty l0 x13_1).toList = (rdOf ByteArray.empty l1 x13_1).toList
        ·rw [if_pos c8] at H
         have c8b0 : ((rdOf ByteArray.empty l0 x13_1).toList == (rdOf ByteArray.empty l1 x13_1).toList) = true := beq_iff_eq.mpr c8
         have c8b1 : ((rdOf ByteArray.empty l0 x13_1).toList != (rdOf ByteArray.empty l1 x13_1).toList) = false := bne_eq_false_iff_eq.mpr c8
         clear c8
         have H' := Aside0.mk H
         clear H
         have p488 : 0 ≤ (x13_1 : Int) := M.dt
         have q488 : x13_1 < (l0.length : Int) := M.dt
         obtain ⟨ad488, e488, hx488_0⟩ := Kd.at_string HR0.out x13_1 p488 q488
         cases e488
         replace p488 := eq_true p488
         replace q488 := eq_true q488
         have p489 : 0 ≤ (x13_1 : Int) := M.dt
         have q489 : x13_1 < (l1.length : Int) := M.dt
         obtain ⟨ad489, e489, hx489_0⟩ := Kd.at_string HR1.out x13_1 p489 q489
         cases e489
         replace p489 := eq_true p489
         replace q489 := eq_true q489
         go_wp2
         repeat (go_quiet (fail); try go_wp2)
         go_roundg k1
         case measure => have := HK1.out; omega
         case rel => exact ⟨(wrap64 (x13_1 + 1)), M.eqv, H', ⟨by have := HK1.out; omega⟩, by repeat (first | exact Drawn0.refl _ | apply Drawn0.step)⟩
        ·rw [if_neg c8] at H
         have c8b0 : ((rdOf ByteArray.empty l0 x13_1).toList == (rdOf ByteArray.empty l1 x13_1).toList) = false := beq_eq_false_iff_ne.mpr c8
         have c8b1 : ((rdOf ByteArray.empty l0 x13_1).toList != (rdOf ByteArray.empty l1 x13_1).toList) = true := bne_iff_ne.mpr c8
         obtain rfl := Option.some.inj H
         have p488 : 0 ≤ (x13_1 : Int) := M.dt
         have q488 : x13_1 < (l0.length : Int) := M.dt
         obtain ⟨ad488, e488, hx488_0⟩ := Kd.at_string HR0.out x13_1 p488 q488
         cases e488
         replace p488 := eq_true p488
         replace q488 := eq_true q488
         have p489 : 0 ≤ (x13_1 : Int) := M.dt
         have q489 : x13_1 < (l1.length : Int) := M.dt
         obtain ⟨ad489, e489, hx489_0⟩ := Kd.at_string HR1.out x13_1 p489 q489
         cases e489
         replace p489 := eq_true p489
         replace q489 := eq_true q489
         go_wp2
         repeat (go_quiet (fail); try go_wp2)
         go_ret
         exact ⟨by first | rfl | (simp; done) | (simp [*]; done), by repeat (first | exact Drawn0.refl _ | apply Drawn0.step)⟩
       ·exact M.nf c7 H
      ·exact M.nf c6 H
     ·exact M.nf c5 H
    ·rw [if_neg c4] at H
     have c4b0 := decide_eq_false c4
     clear c4
     obtain rfl := Option.some.inj H
     go_wp2
     repeat (go_quiet (fail); try go_wp2)
     go_ret
     exact ⟨by first | rfl | (simp; done) | (simp [*]; done), by repeat (first | exact Drawn0.refl _ | apply Drawn0.step)⟩
 ·rw [if_neg c3] at H
  have c3b0 : ((l0.length : Int) == (l1.length : Int)) = false := beq_eq_false_iff_ne.mpr c3
  have c3b1 : ((l0.length : Int) != (l1.length : Int)) = true := bne_iff_ne.mpr c3
  have c3b2 : (l0.length == l1.length) = false := by first | simpa using c3 | (simp at c3 ⊢; omega)
  obtain rfl := Option.some.inj H
  go_enter Tryd.func7, Tryd.ntmps7
  go_wp2
  repeat (go_quiet (fail); try go_wp2)
  go_ret
  exact ⟨by first | rfl | (simp; done) | (simp [*]; done), by repeat (first | exact Drawn0.refl _ | apply Drawn0.step)⟩
def pleachplain_Texts.f (l0 : List ByteArray) (l1 : List ByteArray) : Option Bool := if l0.length ≤ 9223372036854775806 then some (decide (l0 = l1)) else none
theorem pleachplain_Texts.loop (l m : List ByteArray) (hl : l.length ≤ 9223372036854775806) (hm : l.length = m.length) (d : Nat) : ∀ (i : Nat), i + d = l.length →
    pleachplain_Texts_p.l0 (d + 1) l m (l.length : Int) (i : Int) = some (decide (l.drop i = m.drop i)) := by
 induction d with
 | zero =>
  intro i hi
  rw [pleachplain_Texts_p.l0, if_neg (by omega), List.drop_of_length_le (by omega), List.drop_of_length_le (by omega)]
  congr 1
 | succ d ih =>
  intro i hi
  have hlt : i < l.length := by omega
  have hlt' : i < m.length := by omega
  have hrd : rdOf ByteArray.empty l (i : Int) = l[i] := by simp [rdOf, List.getD, hlt]
  have hrd' : rdOf ByteArray.empty m (i : Int) = m[i] := by simp [rdOf, List.getD, hlt']
  rw [pleachplain_Texts_p.l0, if_pos (by omega), if_pos (by omega), if_pos (by omega), if_pos (by omega), hrd, hrd', M.wrap64_id (by omega) (by omega), show (i : Int) + 1 = ((i + 1 : Nat) : Int) from by omega, ih (i + 1) (by omega), List.drop_eq_getElem_cons hlt, List.drop_eq_getElem_cons hlt', M.toList_bs, M.toList_bs]
  by_cases h : l[i] = m[i]
  ·rw [if_pos (by rw [h])]
   congr 1
   apply decide_eq_decide.2
   rw [h]
   exact ⟨fun z => by rw [z], fun z => (List.cons.inj z).2⟩
  ·rw [if_neg (fun z => h (M.bs_inj z))]
   congr 1
   exact (decide_eq_false (fun z => h (List.cons.inj z).1)).symm
theorem pleachplain_Texts.ev (l m : List ByteArray) (r : Bool) (h : pleachplain_Texts.f l m = some r) : ∃ k, pleachplain_Texts_p.f k l m = some r := by
 unfold pleachplain_Texts.f at h
 split at h
 case isFalse => cases h
 case isTrue hh =>
  refine ⟨l.length + 1, ?_⟩
  rw [← h]
  unfold pleachplain_Texts_p.f
  by_cases hm : l.length = m.length
  ·have := pleachplain_Texts.loop l m hh hm l.length 0 (by omega)
   rw [List.drop_zero, List.drop_zero] at this
   rw [if_pos (by omega)]
   exact this
  ·rw [if_neg (by omega)]
   congr 1
   exact (decide_eq_false (fun z => hm (by rw [z]))).symm
theorem pleachplain_Texts.calls (A0 : Option Addr) (c0 : Nat) (l0 : List ByteArray) (A1 : Option Addr) (c1 : Nat) (l1 : List ByteArray) (r : Bool) (w : World) (hr0 : Kd.C Kd.string w A0 l0.length l0) (hc0 : l0.length ≤ c0) (hr1 : Kd.C Kd.string w A1 l1.length l1) (hc1 : l1.length ≤ c1) (h : pleachplain_Texts.f l0 l1 = some r) :
    Calls Tryd.prog 7 #[.slice A0 l0.length c0, .slice A1 l1.length c1] w fun e w' => e = .returned (.bool r) ∧ Drawn0 w w' := by
 obtain ⟨k, hk⟩ := pleachplain_Texts.ev _ _ _ h
 exact pleachplain_Texts_p.calls (k := k) (w := w) (h := hk) (hr0 := hr0) (hc0 := hc0) (hr1 := hr1) (hc1 := hc1)
def pleachlaw39_MarkNames.f (k : Nat) (a0 : ByteArray) : Option (Bool) := if (a0.size : Int) > 3000 then ((pleachlaw39_awake.f).bind fun t490 => (some t490)) else ((mark_Names.f k a0).bind fun bt491 => ((pleachref39_Names.f k a0).bind fun bt495 => ((pleachplain_Texts.f bt491.1 bt495.1).bind fun t499 => (if t499 = true then (if ((bt491.2 == 0) == bt495.2) = true then (if bt495.2 = true then ((pleachlaw39_awake.f).bind fun t500 => (some t500)) else (if bt491.2 = 3 then ((pleachlaw39_awake.f).bind fun t501 => (some t501)) else (some false))) else (some false)) else (some false)))))
theorem pleachlaw39_MarkNames.mono : ∀ a0 k, LeO (pleachlaw39_MarkNames.f k a0) (pleachlaw39_MarkNames.f (k + 1) a0) := by
  intro a0 k
  unfold pleachlaw39_MarkNames.f
  repeat' first
      | (with_reducible exact mark_Names.mono _ _)
      | (with_reducible exact pleachref39_Names.mono _ _)
      | (with_reducible exact LeO.refl _)
      | (with_reducible exact LeO.none _)
      | (with_reducible refine LeO.ite ?_ ?_)
      | (with_reducible refine LeO.bind ?_ (fun _ => ?_))
      | exact mark_Names.mono _ _
      | exact pleachref39_Names.mono _ _
      | exact LeO.none _
      | refine LeO.ite ?_ ?_
      | refine LeO.bind ?_ (fun _ => ?_)
set_option maxHeartbeats 8000000 in
set_option maxRecDepth 100000 in
theorem pleachlaw39_MarkNames.calls (k : Nat) (a0 : ByteArray) (r : Bool) (w : World) (h : pleachlaw39_MarkNames.f k a0 = some r) (hT : M.stab w) :
    Calls Tryd.prog 3 #[.string a0] w fun e w' => e = .returned (.bool r) ∧ Below w.heap.size w w' := by
 have HT := Aside0.mk hT
 clear hT
 have HB := Aside0.mk (Below.refl w.heap.size w)
 have H : (if (a0.size : Int) > 3000 then ((pleachlaw39_awake.f).bind fun t490 => (some t490)) else ((mark_Names.f k a0).bind fun bt491 => ((pleachref39_Names.f k a0).bind fun bt495 => ((pleachplain_Texts.f bt491.1 bt495.1).bind fun t499 => (if t499 = true then (if ((bt491.2 == 0) == bt495.2) = true then (if bt495.2 = true then ((pleachlaw39_awake.f).bind fun t500 => (some t500)) else (if bt491.2 = 3 then ((pleachlaw39_awake.f).bind fun t501 => (some t501)) else (some false))) else (some false)) else (some false)))))) = some r := h
 clear h
 by_cases c2 : (a0.size : Int) > 3000
 ·rw [if_pos c2] at H
  have c2b0 := decide_eq_true c2
  have c2b1 : decide (3000 < a0.size) = true := decide_eq_true (by omega)
  clear c2
  replace H := Option.bind_eq_some_iff.mp H
  obtain ⟨t490, A30, H⟩ := H
  replace H : (some t490) = some r := H
  have A3 := Aside0.mk A30
  clear A30
  obtain rfl := Option.some.inj H
  go_enter Tryd.func3, Tryd.ntmps3
  go_wp2_with (first | ((with_reducible refine gate_callee (f := 4) rfl ?_); refine M.goes (some 10) Tryd.func4 #[] rfl ?_; (with_reducible refine (pleachlaw39_awake.calls  t490 _ A3.out (hT := M.stab_up HT (M.up HB))).mono ?_); rintro e w4 ⟨rfl, hb⟩; refine ⟨_, rfl, ?_⟩; replace HB := M.upS HB hb; (try clear hb)))
  go_ret
  exact M.fin (M.up HB)
 ·rw [if_neg c2] at H
  have c2b0 := decide_eq_false c2
  have c2b1 : decide (3000 < a0.size) = false := decide_eq_false (by omega)
  clear c2
  replace H := Option.bind_eq_some_iff.mp H
  obtain ⟨⟨t491, t492⟩, A50, H⟩ := H
  replace H : ((pleachref39_Names.f k a0).bind fun bt495 => ((pleachplain_Texts.f t491 bt495.1).bind fun t499 => (if t499 = true then (if ((t492 == 0) == bt495.2) = true then (if bt495.2 = true then ((pleachlaw39_awake.f).bind fun t500 => (some t500)) else (if t492 = 3 then ((pleachlaw39_awake.f).bind fun t501 => (some t501)) else (some false))) else (some false)) else (some false)))) = some r := H
  have A5 := Aside0.mk A50
  clear A50
  replace H := Option.bind_eq_some_iff.mp H
  obtain ⟨⟨t495, t496⟩, A60, H⟩ := H
  replace H : ((pleachplain_Texts.f t491 t495).bind fun t499 => (if t499 = true then (if ((t492 == 0) == t496) = true then (if t496 = true then ((pleachlaw39_awake.f).bind fun t500 => (some t500)) else (if t492 = 3 then ((pleachlaw39_awake.f).bind fun t501 => (some t501)) else (some false))) else (some false)) else (some false))) = some r := H
  have A6 := Aside0.mk A60
  clear A60
  replace H := Option.bind_eq_some_iff.mp H
  obtain ⟨t499, A70, H⟩ := H
  replace H : (if t499 = true then (if ((t492 == 0) == t496) = true then (if t496 = true then ((pleachlaw39_awake.f).bind fun t500 => (some t500)) else (if t492 = 3 then ((pleachlaw39_awake.f).bind fun t501 => (some t501)) else (some false))) else (some false)) else (some false)) = some r := H
  have A7 := Aside0.mk A70
  clear A70
  by_cases c8 : t499 = true
  ·subst c8
   have H1 : (if ((t492 == 0) == t496) = true then (if t496 = true then ((pleachlaw39_awake.f).bind fun t500 => (some t500)) else (if t492 = 3 then ((pleachlaw39_awake.f).bind fun t501 => (some t501)) else (some false))) else (some false)) = some r := by rw [if_pos rfl] at H; exact H
   clear H
   have H := H1
   clear H1
   by_cases c9 : ((t492 == 0) == t496) = true
   ·rw [if_pos c9] at H
    have c9b0 : ((t492 == 0) == t496) = true := c9
    (try (have c9b1 : decide ((t492 == 0) = t496) = true := by simpa using c9))
    (try (have c9b2 : ((t492 == 0) == t496) = true := by simpa using c9))
    clear c9
    by_cases c10 : t496 = true
    ·subst c10
     have H1 : ((pleachlaw39_awake.f).bind fun t500 => (some t500)) = some r := by rw [if_pos rfl] at H; exact H
     clear H
     have H := H1
     clear H1
     replace H := Option.bind_eq_some_iff.mp H
     obtain ⟨t500, A110, H⟩ := H
     replace H : (some t500) = some r := H
     have A11 := Aside0.mk A110
     clear A110
     obtain rfl := Option.some.inj H
     go_enter Tryd.func3, Tryd.ntmps3
     go_wp2_with (first | ((with_reducible refine gate_callee (f := 5) rfl ?_); refine M.goes (some 13) Tryd.func5 #[.string a0] rfl ?_; (with_reducible refine (mark_Names.calls k a0 t491 t492 _ A5.out).mono ?_); rintro e w12 ⟨v493, rfl, ho0, hb⟩; refine ⟨_, rfl, ?_⟩; have HO494 := Aside0.mk (Kd.R_lower ho0 (below_size (M.up HB))); replace HB := M.upS HB hb; (try clear hb); (try clear ho0)) | ((with_reducible refine gate_callee (f := 6) rfl ?_); refine M.goes (some 18) Tryd.func6 #[.string a0] rfl ?_; (with_reducible refine (pleachref39_Names.calls k a0 t495 true _ A6.out).mono ?_); rintro e w13 ⟨v497, rfl, ho0, hb⟩; refine ⟨_, rfl, ?_⟩; have HO498 := Aside0.mk (Kd.R_lower (Kd.R_new' ho0 (Kd.R_lt (M.ro HO494))) (below_size (M.up HB))); replace HO494 := Aside0.mk (Kd.R_elder' (M.ro HO494) (Kd.R_base ho0) hb); replace HB := M.upS HB hb; (try clear hb); (try clear ho0); obtain ⟨Ao14, co14, eo14⟩ := Kd.R_slice HO494.out; subst eo14; obtain ⟨Ao15, co15, eo15⟩ := Kd.R_slice HO498.out; subst eo15) | ((with_reducible refine gate_callee (f := 7) rfl ?_); refine M.goes (some 23) Tryd.func7 #[.slice Ao14 t491.length co14, .slice Ao15 t495.length co15] rfl ?_; (with_reducible refine (pleachplain_Texts.calls _ _ t491 _ _ t495 true _ ?side1 ?side2 ?side3 ?side4 A7.out).mono ?_); (case side1 => repeat (first | exact (Kd.R_reads' HO494.out).2.2 | (with_reducible refine Kd.C_alloc ?_ _) | (with_reducible refine Kd.C_drewN ?_ _) | (with_reducible refine Kd.C_drew ?_))); (case side2 => exact (Kd.R_reads' HO494.out).2.1); (case side3 => repeat (first | exact (Kd.R_reads' HO498.out).2.2 | (with_reducible refine Kd.C_alloc ?_ _) | (with_reducible refine Kd.C_drewN ?_ _) | (with_reducible refine Kd.C_drew ?_))); (case side4 => exact (Kd.R_reads' HO498.out).2.1); rintro e w' ⟨rfl, ⟨nd, rfl⟩⟩; refine ⟨_, rfl, ?_⟩) | (go_at_call 4; (with_reducible refine (pleachlaw39_awake.calls  t500 _ A11.out (hT := M.stab_up HT (M.up HB))).mono ?_); rintro e w16 ⟨rfl, hb⟩; replace HO494 := M.roB HO494 hb; replace HO498 := M.roB HO498 hb; replace HB := M.upS HB hb; (try clear hb); (try clear hb2); (try clear hk); (try clear hi)))
     go_ret
     exact M.fin (M.up HB)
    ·replace c10 := Bool.eq_false_iff.mpr c10
     subst c10
     have H1 : (if t492 = 3 then ((pleachlaw39_awake.f).bind fun t501 => (some t501)) else (some false)) = some r := by rw [if_neg (show ¬ (false = true) by decide)] at H; exact H
     clear H
     have H := H1
     clear H1
     by_cases c17 : t492 = 3
     ·rw [if_pos c17] at H
      have c17b0 : (t492 == 3) = true := beq_iff_eq.mpr c17
      have c17b1 : (t492 != 3) = false := bne_eq_false_iff_eq.mpr c17
      clear c17
      replace H := Option.bind_eq_some_iff.mp H
      obtain ⟨t501, A180, H⟩ := H
      replace H : (some t501) = some r := H
      have A18 := Aside0.mk A180
      clear A180
      obtain rfl := Option.some.inj H
      go_enter Tryd.func3, Tryd.ntmps3
      go_wp2_with (first | ((with_reducible refine gate_callee (f := 5) rfl ?_); refine M.goes (some 13) Tryd.func5 #[.string a0] rfl ?_; (with_reducible refine (mark_Names.calls k a0 t491 t492 _ A5.out).mono ?_); rintro e w19 ⟨v493, rfl, ho0, hb⟩; refine ⟨_, rfl, ?_⟩; have HO494 := Aside0.mk (Kd.R_lower ho0 (below_size (M.up HB))); replace HB := M.upS HB hb; (try clear hb); (try clear ho0)) | ((with_reducible refine gate_callee (f := 6) rfl ?_); refine M.goes (some 18) Tryd.func6 #[.string a0] rfl ?_; (with_reducible refine (pleachref39_Names.calls k a0 t495 false _ A6.out).mono ?_); rintro e w20 ⟨v497, rfl, ho0, hb⟩; refine ⟨_, rfl, ?_⟩; have HO498 := Aside0.mk (Kd.R_lower (Kd.R_new' ho0 (Kd.R_lt (M.ro HO494))) (below_size (M.up HB))); replace HO494 := Aside0.mk (Kd.R_elder' (M.ro HO494) (Kd.R_base ho0) hb); replace HB := M.upS HB hb; (try clear hb); (try clear ho0); obtain ⟨Ao21, co21, eo21⟩ := Kd.R_slice HO494.out; subst eo21; obtain ⟨Ao22, co22, eo22⟩ := Kd.R_slice HO498.out; subst eo22) | ((with_reducible refine gate_callee (f := 7) rfl ?_); refine M.goes (some 23) Tryd.func7 #[.slice Ao21 t491.length co21, .slice Ao22 t495.length co22] rfl ?_; (with_reducible refine (pleachplain_Texts.calls _ _ t491 _ _ t495 true _ ?side1 ?side2 ?side3 ?side4 A7.out).mono ?_); (case side1 => repeat (first | exact (Kd.R_reads' HO494.out).2.2 | (with_reducible refine Kd.C_alloc ?_ _) | (with_reducible refine Kd.C_drewN ?_ _) | (with_reducible refine Kd.C_drew ?_))); (case side2 => exact (Kd.R_reads' HO494.out).2.1); (case side3 => repeat (first | exact (Kd.R_reads' HO498.out).2.2 | (with_reducible refine Kd.C_alloc ?_ _) | (with_reducible refine Kd.C_drewN ?_ _) | (with_reducible refine Kd.C_drew ?_))); (case side4 => exact (Kd.R_reads' HO498.out).2.1); rintro e w' ⟨rfl, ⟨nd, rfl⟩⟩; refine ⟨_, rfl, ?_⟩) | (go_at_call 4; (with_reducible refine (pleachlaw39_awake.calls  t501 _ A18.out (hT := M.stab_up HT (M.up HB))).mono ?_); rintro e w23 ⟨rfl, hb⟩; replace HO494 := M.roB HO494 hb; replace HO498 := M.roB HO498 hb; replace HB := M.upS HB hb; (try clear hb); (try clear hb2); (try clear hk); (try clear hi)))
      go_ret
      exact M.fin (M.up HB)
     ·rw [if_neg c17] at H
      have c17b0 : (t492 == 3) = false := beq_eq_false_iff_ne.mpr c17
      have c17b1 : (t492 != 3) = true := bne_iff_ne.mpr c17
      obtain rfl := Option.some.inj H
      go_enter Tryd.func3, Tryd.ntmps3
      go_wp2_with (first | ((with_reducible refine gate_callee (f := 5) rfl ?_); refine M.goes (some 13) Tryd.func5 #[.string a0] rfl ?_; (with_reducible refine (mark_Names.calls k a0 t491 t492 _ A5.out).mono ?_); rintro e w24 ⟨v493, rfl, ho0, hb⟩; refine ⟨_, rfl, ?_⟩; have HO494 := Aside0.mk (Kd.R_lower ho0 (below_size (M.up HB))); replace HB := M.upS HB hb; (try clear hb); (try clear ho0)) | ((with_reducible refine gate_callee (f := 6) rfl ?_); refine M.goes (some 18) Tryd.func6 #[.string a0] rfl ?_; (with_reducible refine (pleachref39_Names.calls k a0 t495 false _ A6.out).mono ?_); rintro e w25 ⟨v497, rfl, ho0, hb⟩; refine ⟨_, rfl, ?_⟩; have HO498 := Aside0.mk (Kd.R_lower (Kd.R_new' ho0 (Kd.R_lt (M.ro HO494))) (below_size (M.up HB))); replace HO494 := Aside0.mk (Kd.R_elder' (M.ro HO494) (Kd.R_base ho0) hb); replace HB := M.upS HB hb; (try clear hb); (try clear ho0); obtain ⟨Ao26, co26, eo26⟩ := Kd.R_slice HO494.out; subst eo26; obtain ⟨Ao27, co27, eo27⟩ := Kd.R_slice HO498.out; subst eo27) | ((with_reducible refine gate_callee (f := 7) rfl ?_); refine M.goes (some 23) Tryd.func7 #[.slice Ao26 t491.length co26, .slice Ao27 t495.length co27] rfl ?_; (with_reducible refine (pleachplain_Texts.calls _ _ t491 _ _ t495 true _ ?side1 ?side2 ?side3 ?side4 A7.out).mono ?_); (case side1 => repeat (first | exact (Kd.R_reads' HO494.out).2.2 | (with_reducible refine Kd.C_alloc ?_ _) | (with_reducible refine Kd.C_drewN ?_ _) | (with_reducible refine Kd.C_drew ?_))); (case side2 => exact (Kd.R_reads' HO494.out).2.1); (case side3 => repeat (first | exact (Kd.R_reads' HO498.out).2.2 | (with_reducible refine Kd.C_alloc ?_ _) | (with_reducible refine Kd.C_drewN ?_ _) | (with_reducible refine Kd.C_drew ?_))); (case side4 => exact (Kd.R_reads' HO498.out).2.1); rintro e w' ⟨rfl, ⟨nd, rfl⟩⟩; refine ⟨_, rfl, ?_⟩))
      go_ret
      exact M.fin (M.up HB)
   ·rw [if_neg c9] at H
    have c9b0 : ((t492 == 0) == t496) = false := by simpa using c9
    (try (have c9b1 : decide ((t492 == 0) = t496) = false := by simpa using c9))
    (try (have c9b2 : ((t492 == 0) == t496) = false := by simpa using c9))
    (try (have c9b3 : ¬ ((t492 == 0) = t496) := by simpa using c9))
    clear c9
    obtain rfl := Option.some.inj H
    go_enter Tryd.func3, Tryd.ntmps3
    go_wp2_with (first | ((with_reducible refine gate_callee (f := 5) rfl ?_); refine M.goes (some 13) Tryd.func5 #[.string a0] rfl ?_; (with_reducible refine (mark_Names.calls k a0 t491 t492 _ A5.out).mono ?_); rintro e w28 ⟨v493, rfl, ho0, hb⟩; refine ⟨_, rfl, ?_⟩; have HO494 := Aside0.mk (Kd.R_lower ho0 (below_size (M.up HB))); replace HB := M.upS HB hb; (try clear hb); (try clear ho0)) | ((with_reducible refine gate_callee (f := 6) rfl ?_); refine M.goes (some 18) Tryd.func6 #[.string a0] rfl ?_; (with_reducible refine (pleachref39_Names.calls k a0 t495 t496 _ A6.out).mono ?_); rintro e w29 ⟨v497, rfl, ho0, hb⟩; refine ⟨_, rfl, ?_⟩; have HO498 := Aside0.mk (Kd.R_lower (Kd.R_new' ho0 (Kd.R_lt (M.ro HO494))) (below_size (M.up HB))); replace HO494 := Aside0.mk (Kd.R_elder' (M.ro HO494) (Kd.R_base ho0) hb); replace HB := M.upS HB hb; (try clear hb); (try clear ho0); obtain ⟨Ao30, co30, eo30⟩ := Kd.R_slice HO494.out; subst eo30; obtain ⟨Ao31, co31, eo31⟩ := Kd.R_slice HO498.out; subst eo31) | ((with_reducible refine gate_callee (f := 7) rfl ?_); refine M.goes (some 23) Tryd.func7 #[.slice Ao30 t491.length co30, .slice Ao31 t495.length co31] rfl ?_; (with_reducible refine (pleachplain_Texts.calls _ _ t491 _ _ t495 true _ ?side1 ?side2 ?side3 ?side4 A7.out).mono ?_); (case side1 => repeat (first | exact (Kd.R_reads' HO494.out).2.2 | (with_reducible refine Kd.C_alloc ?_ _) | (with_reducible refine Kd.C_drewN ?_ _) | (with_reducible refine Kd.C_drew ?_))); (case side2 => exact (Kd.R_reads' HO494.out).2.1); (case side3 => repeat (first | exact (Kd.R_reads' HO498.out).2.2 | (with_reducible refine Kd.C_alloc ?_ _) | (with_reducible refine Kd.C_drewN ?_ _) | (with_reducible refine Kd.C_drew ?_))); (case side4 => exact (Kd.R_reads' HO498.out).2.1); rintro e w' ⟨rfl, ⟨nd, rfl⟩⟩; refine ⟨_, rfl, ?_⟩))
    go_ret
    exact M.fin (M.up HB)
  ·replace c8 := Bool.eq_false_iff.mpr c8
   subst c8
   have H1 : (some false) = some r := by rw [if_neg (show ¬ (false = true) by decide)] at H; exact H
   clear H
   have H := H1
   clear H1
   obtain rfl := Option.some.inj H
   go_enter Tryd.func3, Tryd.ntmps3
   go_wp2_with (first | ((with_reducible refine gate_callee (f := 5) rfl ?_); refine M.goes (some 13) Tryd.func5 #[.string a0] rfl ?_; (with_reducible refine (mark_Names.calls k a0 t491 t492 _ A5.out).mono ?_); rintro e w32 ⟨v493, rfl, ho0, hb⟩; refine ⟨_, rfl, ?_⟩; have HO494 := Aside0.mk (Kd.R_lower ho0 (below_size (M.up HB))); replace HB := M.upS HB hb; (try clear hb); (try clear ho0)) | ((with_reducible refine gate_callee (f := 6) rfl ?_); refine M.goes (some 18) Tryd.func6 #[.string a0] rfl ?_; (with_reducible refine (pleachref39_Names.calls k a0 t495 t496 _ A6.out).mono ?_); rintro e w33 ⟨v497, rfl, ho0, hb⟩; refine ⟨_, rfl, ?_⟩; have HO498 := Aside0.mk (Kd.R_lower (Kd.R_new' ho0 (Kd.R_lt (M.ro HO494))) (below_size (M.up HB))); replace HO494 := Aside0.mk (Kd.R_elder' (M.ro HO494) (Kd.R_base ho0) hb); replace HB := M.upS HB hb; (try clear hb); (try clear ho0); obtain ⟨Ao34, co34, eo34⟩ := Kd.R_slice HO494.out; subst eo34; obtain ⟨Ao35, co35, eo35⟩ := Kd.R_slice HO498.out; subst eo35) | ((with_reducible refine gate_callee (f := 7) rfl ?_); refine M.goes (some 23) Tryd.func7 #[.slice Ao34 t491.length co34, .slice Ao35 t495.length co35] rfl ?_; (with_reducible refine (pleachplain_Texts.calls _ _ t491 _ _ t495 false _ ?side1 ?side2 ?side3 ?side4 A7.out).mono ?_); (case side1 => repeat (first | exact (Kd.R_reads' HO494.out).2.2 | (with_reducible refine Kd.C_alloc ?_ _) | (with_reducible refine Kd.C_drewN ?_ _) | (with_reducible refine Kd.C_drew ?_))); (case side2 => exact (Kd.R_reads' HO494.out).2.1); (case side3 => repeat (first | exact (Kd.R_reads' HO498.out).2.2 | (with_reducible refine Kd.C_alloc ?_ _) | (with_reducible refine Kd.C_drewN ?_ _) | (with_reducible refine Kd.C_drew ?_))); (case side4 => exact (Kd.R_reads' HO498.out).2.1); rintro e w' ⟨rfl, ⟨nd, rfl⟩⟩; refine ⟨_, rfl, ?_⟩))
   go_ret
   exact M.fin (M.up HB)
def pleachlaw39_MarkNames.Pure : Prop := ∀ (a0 : ByteArray), (a0.size ≤ 140737488351232) → ∃ k, pleachlaw39_MarkNames.f k a0 = some true
end Go.Proofs.YtkjbhgolillidaaDoor.EMarkNames
