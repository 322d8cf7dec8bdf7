-- Written by this session's own program (wip/tools/ext.py) for this claim; Lean checks it.
import Derived.Test.YtadpicphohobbaaEDeltaTakesx0
import Derived.Test.YtadpicphohobbaaEDeltaTakesx1
namespace Go.Proofs.Ytadpicphohobbaa.EDeltaTakes
open Go.RowKit Go.Proofs.YtadpicphohobbaaW.PrintWords Go.Proofs.YtadpicphohobbaaW.PrintLast Go.Proofs.YtadpicphohobbaaW.PrintMore
attribute [local go_sem] M.run_leq M.run_gtr M.run_geq max2_int min2_int max_two min_two max_three min_three max_four min_four   -- for this text's walks alone
set_option linter.unusedVariables false
set_option linter.unusedSimpArgs false

attribute [local go_sem high] eqA34
/-! ### pleachref11_Same_p: function 11 -/
def pleachref11_Same_p.l0 : Nat → List (S34) → List (S34) → Int → Option (Bool)
  | 0, _, _, _ => none
  | k + 1, x0, x1, x5 => if x5 < (x0.length : Int) then (if 0 ≤ x5 then (if x5 < (x1.length : Int) then (if (!(((rd_T34 x0 x5).f0) == ((rd_T34 x1 x5).f0)) || (!(((rd_T34 x0 x5).f1) == ((rd_T34 x1 x5).f1)) || (!(((rd_T34 x0 x5).f2) == ((rd_T34 x1 x5).f2)) || (!((((rd_T34 x0 x5).f3).toList) == (((rd_T34 x1 x5).f3).toList)))))) = true then (some false) else (pleachref11_Same_p.l0 k x0 x1 (wrap64 (x5 + 1)))) else (none)) else (none)) else (some true)
def pleachref11_Same_p.f (k : Nat) (l0 : List (S34)) (l1 : List (S34)) : Option (Bool) := if (l0.length : Int) = (l1.length : Int) then (pleachref11_Same_p.l0 k l0 l1 0) else (some false)
theorem pleachref11_Same_p.mono_l : ∀ k, (∀ y0 y1 y2, LeO (pleachref11_Same_p.l0 k y0 y1 y2) (pleachref11_Same_p.l0 (k + 1) y0 y1 y2))
  | 0 => fun _ _ _ r h => by simp [pleachref11_Same_p.l0] at h
  | k + 1 => by
    have ih0 := pleachref11_Same_p.mono_l k
    · intro y0 y1 y2
      unfold pleachref11_Same_p.l0
      repeat' first
      | (with_reducible exact ih0 _ _ _)
      | (with_reducible exact LeO.refl _)
      | (with_reducible exact LeO.none _)
      | (with_reducible refine LeO.ite ?_ ?_)
      | (with_reducible refine LeO.bind ?_ (fun _ => ?_))
      | exact ih0 _ _ _
      | exact LeO.none _
      | refine LeO.ite ?_ ?_
      | refine LeO.bind ?_ (fun _ => ?_)
theorem pleachref11_Same_p.mono : ∀ a0 a1 k, LeO (pleachref11_Same_p.f k a0 a1) (pleachref11_Same_p.f (k + 1) a0 a1) := by
  intro a0 a1 k
  have ih0 := pleachref11_Same_p.mono_l k
  unfold pleachref11_Same_p.f
  repeat' first
      | (with_reducible exact ih0 _ _ _)
      | (with_reducible exact LeO.refl _)
      | (with_reducible exact LeO.none _)
      | (with_reducible refine LeO.ite ?_ ?_)
      | (with_reducible refine LeO.bind ?_ (fun _ => ?_))
      | exact ih0 _ _ _
      | exact LeO.none _
      | refine LeO.ite ?_ ?_
      | refine LeO.bind ?_ (fun _ => ?_)
set_option maxHeartbeats 8000000 in
set_option maxRecDepth 100000 in
theorem pleachref11_Same_p.calls (k : Nat) (A0 : Option Addr) (c0 : Nat) (l0 : List (S34)) (A1 : Option Addr) (c1 : Nat) (l1 : List (S34)) (r : Bool) (w : World) (hr0 : Kd.C k34 w A0 l0.length l0) (hc0 : l0.length ≤ c0) (hr1 : Kd.C k34 w A1 l1.length l1) (hc1 : l1.length ≤ c1) (h : pleachref11_Same_p.f k l0 l1 = some r) :
    Calls Try.prog 11 #[.slice A0 l0.length c0, .slice A1 l1.length c1] w fun e w' => e = .returned (.bool r) ∧ Drawn0 w w' := by
  have hu34 := Try.underlying34
  have HR0 := Aside0.mk hr0
  have HC0 := Aside0.mk hc0
  clear hr0 hc0
  have HR1 := Aside0.mk hr1
  have HC1 := Aside0.mk hc1
  clear hr1 hc1
  have H : (if (l0.length : Int) = (l1.length : Int) then (pleachref11_Same_p.l0 k l0 l1 0) else (some false)) = some r := h
  clear h
  by_cases c3 : (l0.length : Int) = (l1.length : Int)
  · rw [if_pos c3] at H
    have c3b0 : ((l0.length : Int) == (l1.length : Int)) = true := beq_iff_eq.mpr c3
    have c3b1 : ((l0.length : Int) != (l1.length : Int)) = false := bne_eq_false_iff_eq.mpr c3
    have c3b2 : (l0.length == l1.length) = true := by first | simpa using c3 | (simp at c3 ⊢; omega)
    clear c3
    have H' := Aside0.mk H
    clear H
    go_enter Try.func11, Try.ntmps11
    go_wp2
    repeat (go_quiet (fail); try go_wp2)
    go_loopg [5] k (fun kq v5 w' => ∃ (x5_1 : Int), v5 = .int .i64 x5_1 ∧ Aside0 (pleachref11_Same_p.l0 kq l0 l1 x5_1 = some r) ∧ Aside0 (kq ≤ k) ∧ Drawn0 w w')
    case atStart => exact ⟨(0), (by first | rfl | (simp; done) | (simp [*]; done) | (simp [M.isEmpty_bne]; done)), H', ⟨Nat.le_refl _⟩, by repeat (first | exact Drawn0.refl _ | apply Drawn0.step)⟩
    case round =>
      clear H'
      try clear c1
      try clear p2
      try clear c3
      try clear c3b0
      try clear c3b1
      try clear c3b2
      obtain ⟨x5_1, rfl, HA, HK1, ⟨m1, rfl⟩⟩ := hrel
      cases gk with
      | zero => exact absurd HA.out (by simp [pleachref11_Same_p.l0])
      | succ k1 =>
        have H := HA.out
        clear HA
        simp only [pleachref11_Same_p.l0] at H
        by_cases c4 : x5_1 < (l0.length : Int)
        · rw [if_pos c4] at H
          have c4b0 : decide (x5_1 < (l0.length : Int)) = true := decide_eq_true c4
          clear c4
          by_cases c5 : 0 ≤ x5_1
          · rw [if_pos c5] at H
            have c5b0 : decide (0 ≤ x5_1) = true := decide_eq_true c5
            clear c5
            by_cases c6 : x5_1 < (l1.length : Int)
            · rw [if_pos c6] at H
              have c6b0 : decide (x5_1 < (l1.length : Int)) = true := decide_eq_true c6
              clear c6
              by_cases c7 : (!(((rd_T34 l0 x5_1).f0) == ((rd_T34 l1 x5_1).f0)) || (!(((rd_T34 l0 x5_1).f1) == ((rd_T34 l1 x5_1).f1)) || (!(((rd_T34 l0 x5_1).f2) == ((rd_T34 l1 x5_1).f2)) || (!((((rd_T34 l0 x5_1).f3).toList) == (((rd_T34 l1 x5_1).f3).toList)))))) = true
              · rw [if_pos c7] at H
                have c7b0 : (!(((rd_T34 l0 x5_1).f0) == ((rd_T34 l1 x5_1).f0)) || (!(((rd_T34 l0 x5_1).f1) == ((rd_T34 l1 x5_1).f1)) || (!(((rd_T34 l0 x5_1).f2) == ((rd_T34 l1 x5_1).f2)) || (!((((rd_T34 l0 x5_1).f3).toList) == (((rd_T34 l1 x5_1).f3).toList)))))) = true := c7
                clear c7
                obtain rfl := Option.some.inj H
                have p101 : 0 ≤ (x5_1 : Int) := of_decide_eq_true (by first | (with_reducible assumption) | assumption)
                have q101 : x5_1 < (l0.length : Int) := of_decide_eq_true (by first | (with_reducible assumption) | assumption)
                obtain ⟨ad101, e101, hx101_0, hx101_1, hx101_2, hx101_3⟩ := at_T34 HR0.out x5_1 p101 q101
                cases e101
                replace p101 := eq_true p101
                replace q101 := eq_true q101
                have p102 : 0 ≤ (x5_1 : Int) := of_decide_eq_true (by first | (with_reducible assumption) | assumption)
                have q102 : x5_1 < (l1.length : Int) := of_decide_eq_true (by first | (with_reducible assumption) | assumption)
                obtain ⟨ad102, e102, hx102_0, hx102_1, hx102_2, hx102_3⟩ := at_T34 HR1.out x5_1 p102 q102
                cases e102
                replace p102 := eq_true p102
                replace q102 := eq_true q102
                go_wp2
                repeat (go_quiet (fail); try go_wp2)
                go_ret
                exact ⟨by first | rfl | (simp; done) | (simp [*]; done), by repeat (first | exact Drawn0.refl _ | apply Drawn0.step)⟩
              · rw [if_neg c7] at H
                have c7b0 : (!(((rd_T34 l0 x5_1).f0) == ((rd_T34 l1 x5_1).f0)) || (!(((rd_T34 l0 x5_1).f1) == ((rd_T34 l1 x5_1).f1)) || (!(((rd_T34 l0 x5_1).f2) == ((rd_T34 l1 x5_1).f2)) || (!((((rd_T34 l0 x5_1).f3).toList) == (((rd_T34 l1 x5_1).f3).toList)))))) = false := by simpa using c7
                clear c7
                have H' := Aside0.mk H
                clear H
                have p101 : 0 ≤ (x5_1 : Int) := of_decide_eq_true (by first | (with_reducible assumption) | assumption)
                have q101 : x5_1 < (l0.length : Int) := of_decide_eq_true (by first | (with_reducible assumption) | assumption)
                obtain ⟨ad101, e101, hx101_0, hx101_1, hx101_2, hx101_3⟩ := at_T34 HR0.out x5_1 p101 q101
                cases e101
                replace p101 := eq_true p101
                replace q101 := eq_true q101
                have p102 : 0 ≤ (x5_1 : Int) := of_decide_eq_true (by first | (with_reducible assumption) | assumption)
                have q102 : x5_1 < (l1.length : Int) := of_decide_eq_true (by first | (with_reducible assumption) | assumption)
                obtain ⟨ad102, e102, hx102_0, hx102_1, hx102_2, hx102_3⟩ := at_T34 HR1.out x5_1 p102 q102
                cases e102
                replace p102 := eq_true p102
                replace q102 := eq_true q102
                go_wp2
                repeat (go_quiet (fail); try go_wp2)
                go_roundg k1
                case measure => have := HK1.out; omega
                case rel => exact ⟨(wrap64 (x5_1 + 1)), (by first | rfl | (simp; done) | (simp [*]; done) | (simp [M.isEmpty_bne]; done)), H', ⟨by have := HK1.out; omega⟩, by repeat (first | exact Drawn0.refl _ | apply Drawn0.step)⟩
            · rw [if_neg c6] at H
              exact absurd H (by simp)
          · rw [if_neg c5] at H
            exact absurd H (by simp)
        · rw [if_neg c4] at H
          have c4b0 : decide (x5_1 < (l0.length : Int)) = false := decide_eq_false c4
          clear c4
          obtain rfl := Option.some.inj H
          go_wp2
          repeat (go_quiet (fail); try go_wp2)
          go_ret
          exact ⟨by first | rfl | (simp; done) | (simp [*]; done), by repeat (first | exact Drawn0.refl _ | apply Drawn0.step)⟩
  · rw [if_neg c3] at H
    have c3b0 : ((l0.length : Int) == (l1.length : Int)) = false := beq_eq_false_iff_ne.mpr c3
    have c3b1 : ((l0.length : Int) != (l1.length : Int)) = true := bne_iff_ne.mpr c3
    have c3b2 : (l0.length == l1.length) = false := by first | simpa using c3 | (simp at c3 ⊢; omega)
    obtain rfl := Option.some.inj H
    go_enter Try.func11, Try.ntmps11
    go_wp2
    repeat (go_quiet (fail); try go_wp2)
    go_ret
    exact ⟨by first | rfl | (simp; done) | (simp [*]; done), by repeat (first | exact Drawn0.refl _ | apply Drawn0.step)⟩

-- this session's own plain form
def pleachref11_Same.one (a b : S34) : Bool := a.f0 == b.f0 && (decide (a.f1 = b.f1) && (decide (a.f2 = b.f2) && (a.f3.toList == b.f3.toList)))
def pleachref11_Same.eq : List S34 → List S34 → Bool
  | [], [] => true
  | a :: l, b :: m => pleachref11_Same.one a b && pleachref11_Same.eq l m
  | _, _ => false
theorem pleachref11_Same.one_self (a : S34) : pleachref11_Same.one a a = true := by simp [pleachref11_Same.one]
theorem pleachref11_Same.eq_self : ∀ l : List S34, pleachref11_Same.eq l l = true
  | [] => rfl
  | a :: l => by rw [pleachref11_Same.eq, pleachref11_Same.one_self, pleachref11_Same.eq_self l]; rfl
def pleachref11_Same.f (l m : List S34) : Option Bool := if l.length ≤ 9223372036854775806 then some (pleachref11_Same.eq l m) else none
theorem pleachref11_Same.eq_ne : ∀ l m : List S34, l.length ≠ m.length → pleachref11_Same.eq l m = false
  | [], [], h => absurd rfl h
  | [], _ :: _, _ => rfl
  | _ :: _, [], _ => rfl
  | a :: l, b :: m, h => by rw [pleachref11_Same.eq, pleachref11_Same.eq_ne l m (by simpa using h), Bool.and_false]
theorem pleachref11_Same.loop (l m : List S34) (hl : l.length = m.length) (hc : l.length ≤ 9223372036854775806) (d : Nat) : ∀ i : Nat, i + d = l.length →
    pleachref11_Same_p.l0 (d + 1) l m (i : Int) = some (pleachref11_Same.eq (l.drop i) (m.drop i)) := by
  induction d with
  | zero =>
    intro i hi
    simp only [pleachref11_Same_p.l0]
    rw [if_neg (by omega), List.drop_of_length_le (by omega), List.drop_of_length_le (by omega)]
    rfl
  | succ d ih =>
    intro i hi
    have hlt : i < l.length := by omega
    have hlt2 : i < m.length := by omega
    have hrd : rd_T34 l (i : Int) = l[i] := by simp [rd_T34, List.getD, hlt]
    have hrd2 : rd_T34 m (i : Int) = m[i] := by simp [rd_T34, List.getD, hlt2]
    have hn := ih (i + 1) (by omega)
    rw [pleachref11_Same_p.l0, if_pos (by omega), if_pos (by omega), if_pos (by omega), hrd, hrd2, M.wrap64_id (i := (i : Int) + 1) (by omega) (by omega), show (i : Int) + 1 = ((i + 1 : Nat) : Int) from by omega, hn, List.drop_eq_getElem_cons hlt, List.drop_eq_getElem_cons hlt2]
    generalize l[i] = a
    generalize m[i] = b
    rw [pleachref11_Same.eq]
    have hb : (!(a.f0 == b.f0) || (!(a.f1 == b.f1) || (!(a.f2 == b.f2) || !(a.f3.toList == b.f3.toList)))) = !(pleachref11_Same.one a b) := by
      unfold pleachref11_Same.one
      rw [show (a.f1 == b.f1) = decide (a.f1 = b.f1) from rfl, show (a.f2 == b.f2) = decide (a.f2 = b.f2) from rfl]
      simp only [Bool.not_and]
    rw [hb]
    cases pleachref11_Same.one a b <;> rfl
theorem pleachref11_Same.ev (l m : List S34) (r : Bool) (h : pleachref11_Same.f l m = some r) : ∃ k, pleachref11_Same_p.f k l m = some r := by
  unfold pleachref11_Same.f at h
  split at h
  case isFalse => cases h
  case isTrue hh =>
    obtain rfl := Option.some.inj h
    refine ⟨l.length + 1, ?_⟩
    unfold pleachref11_Same_p.f
    by_cases hl : l.length = m.length
    · rw [if_pos (by omega)]
      have := pleachref11_Same.loop l m hl hh l.length 0 (by omega)
      simpa using this
    · rw [if_neg (by omega), pleachref11_Same.eq_ne _ _ hl]
theorem pleachref11_Same.calls (A0 : Option Addr) (c0 : Nat) (l0 : List (S34)) (A1 : Option Addr) (c1 : Nat) (l1 : List (S34)) (r : Bool) (w : World) (hr0 : Kd.C k34 w A0 l0.length l0) (hc0 : l0.length ≤ c0) (hr1 : Kd.C k34 w A1 l1.length l1) (hc1 : l1.length ≤ c1) (h : pleachref11_Same.f l0 l1 = some r) :
    Calls Try.prog 11 #[.slice A0 l0.length c0, .slice A1 l1.length c1] w fun e w' => e = .returned (.bool r) ∧ Drawn0 w w' := by
  obtain ⟨k, hk⟩ := pleachref11_Same.ev _ _ _ h
  exact pleachref11_Same_p.calls (k := k) (w := w) (h := hk) (hr0 := hr0) (hc0 := hc0) (hr1 := hr1) (hc1 := hc1)

/-! ### delta_index: function 25 -/
section
open Go.Maps
/-- Where a row of eight bytes first stands among the first i places. -/
def delta_index.at_ (base : ByteArray) (key : List UInt8) : Nat → Option Nat
  | 0 => none
  | i + 1 => match delta_index.at_ base key i with
    | some j => some j
    | none => if (base.extract i (i + 8)).data.toList = key then some i else none
theorem delta_index.at_lt (base : ByteArray) (key : List UInt8) : ∀ (i j : Nat), delta_index.at_ base key i = some j → j < i
  | 0, j, h => by cases h
  | i + 1, j, h => by
    rw [delta_index.at_] at h
    split at h
    · rename_i q hq
      have := delta_index.at_lt base key i q hq
      cases h; omega
    · split at h
      · cases h; omega
      · cases h
/-- The map tells where each row first stands. -/
def delta_index.Says (base : ByteArray) (i : Nat) (D : DataW Unit) : Prop :=
  ∀ key : List UInt8, Maps.has D (.string key) = (delta_index.at_ base key i).isSome ∧ D.atKey (.string key) (.lit (.int .i64 0)) = .lit (.int .i64 (((delta_index.at_ base key i).getD 0 : Nat) : Int))
theorem delta_index.says_nil (base : ByteArray) : delta_index.Says base 0 (.map []) := fun key => ⟨rfl, rfl⟩
theorem delta_index.says_met {base : ByteArray} {i : Nat} {D : DataW Unit} (h : delta_index.Says base i D) (hm : Maps.has D (.string (base.extract i (i + 8)).data.toList) = true) : delta_index.Says base (i + 1) D := by
  intro key
  have hk := h key
  have he : delta_index.at_ base key (i + 1) = delta_index.at_ base key i := by
    rw [delta_index.at_]
    split
    · rename_i j hj; exact hj.symm
    · rename_i hj
      rw [if_neg, hj]
      intro e
      subst e
      rw [(h _).1, hj] at hm
      cases hm
  rw [he]; exact hk
theorem delta_index.lit_ {l : List UInt8} : WideAt.IsKeyLit (.string l) := by first | trivial | exact True.intro | (unfold WideAt.IsKeyLit; trivial) | simp [WideAt.IsKeyLit]
theorem delta_index.says_new {base : ByteArray} {i : Nat} {D : DataW Unit} (h : delta_index.Says base i D) (hD : Maps.IsMap D) (hm : Maps.has D (.string (base.extract i (i + 8)).data.toList) = false) :
    delta_index.Says base (i + 1) (D.put (.string (base.extract i (i + 8)).data.toList) (.lit (.int .i64 (i : Int)))) := by
  intro key
  have hk := h key
  rw [delta_index.at_]
  by_cases e : (base.extract i (i + 8)).data.toList = key
  · subst e
    have hn : delta_index.at_ base (base.extract i (i + 8)).data.toList i = none := by
      have := (h (base.extract i (i + 8)).data.toList).1
      rw [hm] at this
      cases hq : delta_index.at_ base (base.extract i (i + 8)).data.toList i with
      | none => rfl
      | some j => rw [hq] at this; cases this
    rw [hn]
    simp only [if_true]
    exact ⟨Maps.has_put_same hD delta_index.lit_ _, Maps.atKey_put_same hD delta_index.lit_ _ _⟩
  · have hne : (Lit.string key) ≠ Lit.string (base.extract i (i + 8)).data.toList := fun q => e (by injection q with q; exact q.symm)
    have e2 : (match delta_index.at_ base key i with | some j => some j | none => if (base.extract i (i + 8)).data.toList = key then some i else none) = delta_index.at_ base key i := by
      split
      · rename_i j hj; exact hj.symm
      · rename_i hj; rw [if_neg e, hj]
    rw [e2, Maps.has_put_other hne, Maps.atKey_put_other hne]
    exact hk
theorem delta_index.law : Maps.Keyed Try.prog 9 := Maps.string_keyed Try.underlying9
theorem delta_index.zero_ (w : World) : (zeroValue 3).run Try.prog w = .ok (.int .i64 0) w := by kernel_rfl
set_option maxHeartbeats 8000000 in
set_option maxRecDepth 100000 in
theorem delta_index.small (base : ByteArray) (w : World) (hb : base.size ≤ 7) :
    Calls Try.prog 25 #[.string base] w fun e w' => ∃ B k D, e = .returned (.map (some B)) ∧ w.heap.size ≤ B ∧ w'.ownsMap Try.prog 9 (plainElem Try.prog 3) B k D ∧ delta_index.Says base (base.size - 7) D ∧ Below w.heap.size w w' := by
  have hmm := @run_makeMap Try.prog
  have h1 : ¬ (0 : Int) < (base.size : Int) - 8 + 1 := by omega
  have HS : Aside0 (delta_index.Says base (base.size - 7) (.map [])) := ⟨by rw [show base.size - 7 = 0 by omega]; exact delta_index.says_nil base⟩
  go_enter Try.func25, Try.ntmps25
  go_wp2
  all_goals
    refine wp_loop_rounds 1 ?_
    rw [rounds_succ]
    go_wp2
    go_ret
    exact ⟨_, _, _, rfl, Nat.le_refl _, World.ownsMap_made _ _ _ _, HS.out, (Below.refl _ _).alloc (Nat.le_refl _) _⟩
set_option maxHeartbeats 8000000 in
set_option maxRecDepth 100000 in
theorem delta_index.big (base : ByteArray) (w : World) (hb : 8 ≤ base.size) (hz : base.size ≤ 9223372036854775800) :
    Calls Try.prog 25 #[.string base] w fun e w' => ∃ B k D, e = .returned (.map (some B)) ∧ w.heap.size ≤ B ∧ w'.ownsMap Try.prog 9 (plainElem Try.prog 3) B k D ∧ delta_index.Says base (base.size - 7) D ∧ Below w.heap.size w w' := by
  have hmm := @run_makeMap Try.prog
  have h1 : (0 : Int) < (base.size : Int) - 8 + 1 := by omega
  go_enter Try.func25, Try.ntmps25
  go_wp2
  go_loopw [14] (fun i wr => ∃ (k m : Nat) (D : DataW Unit), i = .int .i64 k ∧ k ≤ base.size - 7 ∧ m ≤ k ∧ wr.ownsMap Try.prog 9 (plainElem Try.prog 3) w.heap.size m D ∧ Aside0 (delta_index.Says base k D) ∧ Below w.heap.size w wr) (fun i _ => base.size - (intOf i).toNat)
  case atStart => exact ⟨0, 0, _, rfl, Nat.zero_le _, Nat.le_refl _, World.ownsMap_made _ _ _ _, ⟨delta_index.says_nil base⟩, (Below.refl _ _).alloc (Nat.le_refl _) _⟩
  case round =>
    obtain ⟨k, m, D, rfl, hk, hmk, hown, HS, hnx⟩ := hrel
    by_cases hlt : k < base.size - 7
    · have ht : decide ((k : Int) < (base.size : Int) - 8 + 1) = true := decide_eq_true (by omega)
      have hex : (base.extract k (k + 8)).size ≤ maxLen := by rw [ByteArray.size_extract]; unfold maxLen; omega
      have hKEY := Go.WideMaps.keyOf_string_mk Try.underlying9 hex
      have hD := hown.isMap
      have hsl : ∀ W : World, (Instr.slice 9 (.string base) (some (.int .i64 (k : Int))) (some (.int .i64 ((k : Int) + 8))) none).run Try.prog W = .ok (.string (base.extract k (k + 8))) W := by
        intro W
        have := run_slice_string (P := Try.prog) W 9 base .i64 .i64 (k : Int) ((k : Int) + 8) Try.underlying9 (by omega) (by omega) (by omega)
        rw [show ((k : Int) + 8).toNat = k + 8 by omega, Int.toNat_natCast] at this
        exact this
      obtain ⟨sub, hsub⟩ : ∃ sub, sub = base.extract k (k + 8) := ⟨_, rfl⟩
      have says1 : ∀ {D : DataW Unit}, delta_index.Says base k D → Maps.has D (.string sub.data.toList) = true → delta_index.Says base (k + 1) D := by
        intro D h1 h2; rw [hsub] at h2; exact delta_index.says_met h1 h2
      have says2 : ∀ {D : DataW Unit}, delta_index.Says base k D → Maps.IsMap D → Maps.has D (.string sub.data.toList) = false → delta_index.Says base (k + 1) (D.put (.string sub.data.toList) (.lit (.int .i64 (k : Int)))) := by
        intro D h1 h2 h3; rw [hsub] at h3 ⊢; exact delta_index.says_new h1 h2 h3
      simp only [← hsub] at hsl hKEY hex
      clear hsub
      cases hhas : Maps.has D (.string sub.data.toList) with
      | true =>
        have HS2 : Aside0 (delta_index.Says base (k + 1) D) := ⟨says1 HS.out hhas⟩
        clear says1 says2
        go_wp2_with (first | (at_lookup; refine wpList_lookup_own_ok_int _ rfl _ _ 50 rfl 9 3 .i64 delta_index.law Try.underlying50 Try.underlying3 (delta_index.zero_ _) w.heap.size m D rfl hown _ _ rfl hKEY ?_; intro c hat hwc))
        go_roundw
        case rel => exact ⟨k + 1, m, D, by go_num, by omega, by omega, hown, HS2, hnx⟩
        case measure => simp [intOf]; omega
      | false =>
        have HS2 : Aside0 (delta_index.Says base (k + 1) (D.put (.string sub.data.toList) (.lit (.int .i64 (k : Int))))) := ⟨says2 HS.out hD hhas⟩
        clear says1 says2
        go_wp2_with (first | (at_lookup; refine wpList_lookup_own_ok_int _ rfl _ _ 50 rfl 9 3 .i64 delta_index.law Try.underlying50 Try.underlying3 (delta_index.zero_ _) w.heap.size m D rfl hown _ _ rfl hKEY ?_; intro c hat hwc) | (at_mapUpdate; refine wpList_mapUpdate_own _ rfl _ _ _ 50 rfl 9 3 delta_index.law Try.underlying50 _ w.heap.size m _ rfl hown (by unfold maxLen; omega) _ _ _ rfl rfl hKEY _ [] (plainElem_int Try.underlying3 (WalkArith.wf_i64 (by omega))) ?_; intro w1 hown1 hgrow1))
        go_roundw
        case rel => exact ⟨k + 1, m + 1, _, by go_num, by omega, by omega, hown1, HS2, hnx.grown hgrow1 hnx.size (fun j hj => by cases hj; exact Nat.le_refl _)⟩
        case measure => simp [intOf]; omega
    · have ht : decide ((k : Int) < (base.size : Int) - 8 + 1) = false := decide_eq_false (by omega)
      obtain rfl : k = base.size - 7 := by omega
      go_wp2
      go_ret
      exact ⟨_, _, _, rfl, Nat.le_refl _, hown, HS.out, hnx⟩
theorem delta_index.any (base : ByteArray) (w : World) (hz : base.size ≤ 9223372036854775800) :
    Calls Try.prog 25 #[.string base] w fun e w' => ∃ B k D, e = .returned (.map (some B)) ∧ w.heap.size ≤ B ∧ w'.ownsMap Try.prog 9 (plainElem Try.prog 3) B k D ∧ delta_index.Says base (base.size - 7) D ∧ Below w.heap.size w w' := by
  by_cases hb : 8 ≤ base.size
  · exact delta_index.big base w hb hz
  · exact delta_index.small base w (by omega)
end

/-! ### delta_alike_p: function 27 -/
mutual
def delta_alike_p.l0 : Nat → ByteArray → ByteArray → Int → Option (Int)
  | 0, _, _, _ => none
  | k + 1, x0, x1, x5 => if x5 < (x0.size : Int) then (if x5 < (x1.size : Int) then (if 0 ≤ x5 then (delta_alike_p.j1 k x0 x1 x5 ((bt x0 x5) == (bt x1 x5))) else (none)) else (delta_alike_p.j1 k x0 x1 x5 false)) else (delta_alike_p.j1 k x0 x1 x5 false)
def delta_alike_p.j1 : Nat → ByteArray → ByteArray → Int → Bool → Option (Int)
  | 0, _, _, _, _ => none
  | k + 1, x0, x1, x5, x24 => if x24 = true then (delta_alike_p.l0 k x0 x1 (wrap64 (x5 + 1))) else (some x5)
end
def delta_alike_p.f (k : Nat) (a0 : ByteArray) (a1 : ByteArray) : Option (Int) := delta_alike_p.l0 k a0 a1 0
theorem delta_alike_p.mono_l : ∀ k, (∀ y0 y1 y2, LeO (delta_alike_p.l0 k y0 y1 y2) (delta_alike_p.l0 (k + 1) y0 y1 y2)) ∧ (∀ y0 y1 y2 y3, LeO (delta_alike_p.j1 k y0 y1 y2 y3) (delta_alike_p.j1 (k + 1) y0 y1 y2 y3))
  | 0 => ⟨fun _ _ _ r h => by simp [delta_alike_p.l0] at h, fun _ _ _ _ r h => by simp [delta_alike_p.j1] at h⟩
  | k + 1 => by
    obtain ⟨ih0, ih1⟩ := delta_alike_p.mono_l k
    refine ⟨?_, ?_⟩
    · intro y0 y1 y2
      unfold delta_alike_p.l0
      repeat' first
      | (with_reducible exact ih0 _ _ _)
      | (with_reducible exact ih1 _ _ _ _)
      | (with_reducible exact LeO.refl _)
      | (with_reducible exact LeO.none _)
      | (with_reducible refine LeO.ite ?_ ?_)
      | (with_reducible refine LeO.bind ?_ (fun _ => ?_))
      | exact ih0 _ _ _
      | exact ih1 _ _ _ _
      | exact LeO.none _
      | refine LeO.ite ?_ ?_
      | refine LeO.bind ?_ (fun _ => ?_)
    · intro y0 y1 y2 y3
      unfold delta_alike_p.j1
      repeat' first
      | (with_reducible exact ih0 _ _ _)
      | (with_reducible exact ih1 _ _ _ _)
      | (with_reducible exact LeO.refl _)
      | (with_reducible exact LeO.none _)
      | (with_reducible refine LeO.ite ?_ ?_)
      | (with_reducible refine LeO.bind ?_ (fun _ => ?_))
      | exact ih0 _ _ _
      | exact ih1 _ _ _ _
      | exact LeO.none _
      | refine LeO.ite ?_ ?_
      | refine LeO.bind ?_ (fun _ => ?_)
theorem delta_alike_p.mono : ∀ a0 a1 k, LeO (delta_alike_p.f k a0 a1) (delta_alike_p.f (k + 1) a0 a1) := by
  intro a0 a1 k
  obtain ⟨ih0, ih1⟩ := delta_alike_p.mono_l k
  unfold delta_alike_p.f
  repeat' first
      | (with_reducible exact ih0 _ _ _)
      | (with_reducible exact ih1 _ _ _ _)
      | (with_reducible exact LeO.refl _)
      | (with_reducible exact LeO.none _)
      | (with_reducible refine LeO.ite ?_ ?_)
      | (with_reducible refine LeO.bind ?_ (fun _ => ?_))
      | exact ih0 _ _ _
      | exact ih1 _ _ _ _
      | exact LeO.none _
      | refine LeO.ite ?_ ?_
      | refine LeO.bind ?_ (fun _ => ?_)
set_option maxHeartbeats 8000000 in
set_option maxRecDepth 100000 in
theorem delta_alike_p.calls (k : Nat) (a0 : ByteArray) (a1 : ByteArray) (r : Int) (w : World) (h : delta_alike_p.f k a0 a1 = some r) :
    Calls Try.prog 27 #[.string a0, .string a1] w fun e w' => e = .returned (.int .i64 r) ∧ Drawn0 w w' := by
  have H : (delta_alike_p.l0 k a0 a1 0) = some r := h
  clear h
  have H' := Aside0.mk H
  clear H
  go_enter Try.func27, Try.ntmps27
  go_wp2
  repeat (go_quiet (fail); try go_wp2)
  go_loopg [5] k (fun kq v5 w' => ∃ (x5_1 : Int), v5 = .int .i64 x5_1 ∧ Aside0 (delta_alike_p.l0 kq a0 a1 x5_1 = some r) ∧ Aside0 (kq ≤ k) ∧ Drawn0 w w')
  case atStart => exact ⟨(0), (by first | rfl | (simp; done) | (simp [*]; done) | (simp [M.isEmpty_bne]; done)), H', ⟨Nat.le_refl _⟩, by repeat (first | exact Drawn0.refl _ | apply Drawn0.step)⟩
  case round =>
    clear H'
    try clear c2
    try clear p2
    obtain ⟨x5_1, rfl, HA, HK1, ⟨m1, rfl⟩⟩ := hrel
    cases gk with
    | zero => exact absurd HA.out (by simp [delta_alike_p.l0])
    | succ k1 =>
      have H := HA.out
      clear HA
      simp only [delta_alike_p.l0] at H
      have HC3 := Aside0.mk H
      clear H
      go_upto_region 2 with (fail)
      repeat (go_quiet (fail); go_upto_region 2 with (fail))
      go_cut [24] (fun v24 wc => ∃ (kq : Nat) (x24_2 : Bool), v24 = .bool x24_2 ∧ Aside0 (delta_alike_p.j1 kq a0 a1 x5_1 x24_2 = some r) ∧ Aside0 (kq ≤ k1) ∧ Drawn0 w wc)
      case first =>
        have H := HC3.out
        clear HC3
        by_cases c4 : x5_1 < (a0.size : Int)
        · rw [if_pos c4] at H
          have c4b0 : decide (x5_1 < (a0.size : Int)) = true := decide_eq_true c4
          clear c4
          (first | rw [c4b0] | (simp only [i64_w, i32_w]; rw [c4b0]) | skip)
          by_cases c5 : x5_1 < (a1.size : Int)
          · rw [if_pos c5] at H
            have c5b0 : decide (x5_1 < (a1.size : Int)) = true := decide_eq_true c5
            clear c5
            by_cases c6 : 0 ≤ x5_1
            · rw [if_pos c6] at H
              have c6b0 : decide (0 ≤ x5_1) = true := decide_eq_true c6
              clear c6
              have H' := Aside0.mk H
              clear H
              have p7 : 0 ≤ (x5_1 : Int) := of_decide_eq_true (by first | (with_reducible assumption) | assumption)
              have q7 : x5_1 < (a0.size : Int) := of_decide_eq_true (by first | (with_reducible assumption) | assumption)
              have hx7 := bt_at a0 x5_1
              replace p7 := eq_true p7
              replace q7 := eq_true q7
              have p8 : 0 ≤ (x5_1 : Int) := of_decide_eq_true (by first | (with_reducible assumption) | assumption)
              have q8 : x5_1 < (a1.size : Int) := of_decide_eq_true (by first | (with_reducible assumption) | assumption)
              have hx8 := bt_at a1 x5_1
              replace p8 := eq_true p8
              replace q8 := eq_true q8
              go_wp2
              repeat (go_quiet (fail); try go_wp2)
              go_meet
              case rel => exact ⟨_, (((bt a0 x5_1) == (bt a1 x5_1))), (by first | rfl | (simp; done) | (simp [*]; done) | (simp [M.isEmpty_bne]; done)), H', ⟨by have := HK1.out; first | omega | exact Nat.le_refl _⟩, by repeat (first | exact Drawn0.refl _ | apply Drawn0.step)⟩
            · rw [if_neg c6] at H
              exact absurd H (by simp)
          · rw [if_neg c5] at H
            have c5b0 : decide (x5_1 < (a1.size : Int)) = false := decide_eq_false c5
            clear c5
            have H' := Aside0.mk H
            clear H
            go_wp2
            repeat (go_quiet (fail); try go_wp2)
            go_meet
            case rel => exact ⟨_, (false), (by first | rfl | (simp; done) | (simp [*]; done) | (simp [M.isEmpty_bne]; done)), H', ⟨by have := HK1.out; first | omega | exact Nat.le_refl _⟩, by repeat (first | exact Drawn0.refl _ | apply Drawn0.step)⟩
        · rw [if_neg c4] at H
          have c4b0 : decide (x5_1 < (a0.size : Int)) = false := decide_eq_false c4
          clear c4
          (first | rw [c4b0] | (simp only [i64_w, i32_w]; rw [c4b0]) | skip)
          have H' := Aside0.mk H
          clear H
          go_wp2
          repeat (go_quiet (fail); try go_wp2)
          go_meet
          case rel => exact ⟨_, (false), (by first | rfl | (simp; done) | (simp [*]; done) | (simp [M.isEmpty_bne]; done)), H', ⟨by have := HK1.out; first | omega | exact Nat.le_refl _⟩, by repeat (first | exact Drawn0.refl _ | apply Drawn0.step)⟩
      case rest =>
        clear HC3
        try clear c2
        try clear p2
        try clear c4
        try clear c4b0
        try clear c5
        try clear c5b0
        try clear c6
        try clear c6b0
        try clear p7
        try clear q7
        try clear hx7
        try clear p8
        try clear q8
        try clear hx8
        try clear p2
        try clear p7
        try clear p8
        try clear q7
        try clear q8
        obtain ⟨kq, x24_2, rfl, HA, HJ2, ⟨mc2, rfl⟩⟩ := hcut
        cases kq with
        | zero => exact absurd HA.out (by simp [delta_alike_p.j1])
        | succ kj2 =>
          have H := HA.out
          clear HA
          simp only [delta_alike_p.j1] at H
          by_cases c9 : x24_2 = true
          · subst c9
            have H1 : (delta_alike_p.l0 kj2 a0 a1 (wrap64 (x5_1 + 1))) = some r := by rw [if_pos rfl] at H; exact H
            clear H
            have H := H1
            clear H1
            have H' := Aside0.mk H
            clear H
            go_wp2
            repeat (go_quiet (fail); try go_wp2)
            go_roundg kj2
            case measure => have := HK1.out; have := HJ2.out; omega
            case rel => exact ⟨(wrap64 (x5_1 + 1)), (by first | rfl | (simp; done) | (simp [*]; done) | (simp [M.isEmpty_bne]; done)), H', ⟨by have := HK1.out; have := HJ2.out; omega⟩, by repeat (first | exact Drawn0.refl _ | apply Drawn0.step)⟩
          · replace c9 := Bool.eq_false_iff.mpr c9
            subst c9
            have H1 : (some x5_1) = some r := by rw [if_neg (show ¬ (false = true) by decide)] at H; exact H
            clear H
            have H := H1
            clear H1
            obtain rfl := Option.some.inj H
            go_wp2
            repeat (go_quiet (fail); try go_wp2)
            go_ret
            exact ⟨by first | rfl | (simp; done) | (simp [*]; done), by repeat (first | exact Drawn0.refl _ | apply Drawn0.step)⟩

-- this session's own plain form
def delta_alike.f (a b : ByteArray) : Option Int := if a.size ≤ 1000000000 then some (M.alike (M.bs a) (M.bs b) : Int) else none
theorem delta_alike.loop (a b : ByteArray) (ha : a.size ≤ 1000000000) (d : Nat) : ∀ (n : Nat), n ≤ M.alike (M.bs a) (M.bs b) → M.alike (M.bs a) (M.bs b) - n = d → ∃ k, delta_alike_p.l0 k a b (n : Int) = some (M.alike (M.bs a) (M.bs b) : Int) := by
  induction d with
  | zero => ?_
  | succ d ih => ?_
  all_goals
    intro n hn hd
    have hle := M.alike_le (M.bs a) (M.bs b)
    rw [M.bs_length, M.bs_length] at hle
    have hs := M.alike_step hn
  case zero =>
    refine ⟨2, ?_⟩
    have hno : ¬ n < M.alike (M.bs a) (M.bs b) := by omega
    have hex : ¬ ∃ (h1 : n < (M.bs a).length) (h2 : n < (M.bs b).length), (M.bs a)[n] = (M.bs b)[n] := fun z => hno (hs.2 z)
    have he : n = M.alike (M.bs a) (M.bs b) := by omega
    simp only [delta_alike_p.l0, delta_alike_p.j1]
    by_cases h1 : (n : Int) < (a.size : Int)
    · rw [if_pos h1]
      by_cases h2 : (n : Int) < (b.size : Int)
      · rw [if_pos h2, if_pos (by omega)]
        have l1 : n < (M.bs a).length := by rw [M.bs_length]; omega
        have l2 : n < (M.bs b).length := by rw [M.bs_length]; omega
        rw [M.bt_bs a n l1, M.bt_bs b n l2]
        have hne : (M.bs a)[n] ≠ (M.bs b)[n] := fun z => hex ⟨l1, l2, z⟩
        rw [if_neg (by
          intro z
          have z := beq_iff_eq.1 z
          exact hne (UInt8.toNat_inj.1 (by omega)))]
        rw [he]
      · rw [if_neg h2, if_neg (by simp), he]
    · rw [if_neg h1, if_neg (by simp), he]
  case succ =>
    obtain ⟨l1, l2, hq⟩ := hs.1 (by omega)
    obtain ⟨k, hk⟩ := ih (n + 1) (by omega) (by omega)
    refine ⟨k + 2, ?_⟩
    simp only [delta_alike_p.l0, delta_alike_p.j1]
    rw [M.bt_bs a n l1, M.bt_bs b n l2, hq]
    rw [M.bs_length] at l1 l2
    rw [if_pos (by omega), if_pos (by omega), if_pos (by omega), if_pos (by simp), M.wrap64_id (by omega) (by omega)]
    exact hk
theorem delta_alike.ev (a b : ByteArray) (r : Int) (h : delta_alike.f a b = some r) : ∃ k, delta_alike_p.f k a b = some r := by
  unfold delta_alike.f at h
  split at h
  · rename_i hh
    obtain rfl := Option.some.inj h
    exact delta_alike.loop a b hh _ 0 (Nat.zero_le _) rfl
  · cases h
theorem delta_alike.calls (a0 : ByteArray) (a1 : ByteArray) (r : Int) (w : World) (h : delta_alike.f a0 a1 = some r) :
    Calls Try.prog 27 #[.string a0, .string a1] w fun e w' => e = .returned (.int .i64 r) ∧ Drawn0 w w' := by
  obtain ⟨k, hk⟩ := delta_alike.ev _ _ _ h
  exact delta_alike_p.calls (k := k) (w := w) (h := hk)

/-! ### delta_Pieces: function 12 -/
section
open Go.Maps
theorem delta_Pieces_1.wr {i : Int} (h0 : 0 ≤ i) (h1 : i ≤ 9223372036854775807) : IntKind.i64.wrap i = i := by
  simp [IntKind.wrap, IntKind.bits, IntKind.signed]; omega
set_option maxHeartbeats 8000000 in
set_option maxRecDepth 100000 in
theorem delta_Pieces_1.skip (gw go gt : Nat) (own tt : Int) (w : World) (hw : w.heap[gw]? = some (.cells #[.int .i64 own] 3 (0, 0))) (h : tt ≤ own) :
    Calls Try.prog 26 #[.int .i64 tt, .pointer (some ⟨gw, 0, none⟩), .pointer (some ⟨go, 0, none⟩), .pointer (some ⟨gt, 0, none⟩)] w fun e w' => e = .returned (.tuple #[]) ∧ w' = w := by
  have cw := cell_of_one hw
  have ht : decide (own < tt) = false := decide_eq_false (by omega)
  go_enter Try.func26, Try.ntmps26
  go_wp2
  first | go_end0 | ((try simp only [Exit.inBlock, Exit.then]); refine bodyPost_ret (results_none rfl _ _ _) rfl ?_)
  exact ⟨rfl, rfl⟩
set_option maxHeartbeats 8000000 in
set_option maxRecDepth 100000 in
theorem delta_Pieces_1.one (gw go gt : Nat) (own tt : Int) (text : ByteArray) (v : Value) (xs : List S34) (ok : Nat → Prop) (w0 w : World) (hB : Below w0.heap.size w0 w) (hw : w.heap[gw]? = some (.cells #[.int .i64 own] 3 (0, 0))) (ho : w.heap[go]? = some (.cells #[v] 23 (0, 0))) (htx : w.heap[gt]? = some (.cells #[.string text] 9 (0, 0)))
    (hR : Kd.R k34 34 w w0.heap.size ok v xs) (h0 : 0 ≤ own) (h : own < tt) (hz : tt ≤ text.size) (hmax : text.size ≤ 9223372036854775807) (hl : xs.length < 1000000000) (hfr : ∀ k, w.heap.size ≤ k → ok k) (hok : ∀ k, ok k → k ≠ gw ∧ k ≠ go ∧ k ≠ gt) (hd1 : gw ≠ go) (hd2 : gt ≠ go) (hgo : w0.heap.size ≤ go) :
    Calls Try.prog 26 #[.int .i64 tt, .pointer (some ⟨gw, 0, none⟩), .pointer (some ⟨go, 0, none⟩), .pointer (some ⟨gt, 0, none⟩)] w fun e w' => e = .returned (.tuple #[]) ∧ ∃ v', w'.heap[gw]? = some (.cells #[.int .i64 own] 3 (0, 0)) ∧ w'.heap[go]? = some (.cells #[v'] 23 (0, 0)) ∧ w'.heap[gt]? = some (.cells #[.string text] 9 (0, 0)) ∧
      Kd.R k34 34 w' w0.heap.size ok v' (xs ++ [⟨false, 0, tt - own, text.extract own.toNat tt.toNat⟩]) ∧ Below w0.heap.size w0 w' ∧ (∀ k, k < w.heap.size → ¬ ok k → k ≠ go → w'.heap[k]? = w.heap[k]?) := by
  have cw := cell_of_one hw
  have co := cell_of_one ho
  have ct := cell_of_one htx
  have fo := free_of_one ho
  have ht : decide (own < tt) = true := decide_eq_true (by omega)
  have hsz : text.size ≤ 9223372036854775807 := hmax
  have hsl : ∀ W : World, (Instr.slice 9 (.string text) (some (.int .i64 own)) (some (.int .i64 tt)) none).run Try.prog W = .ok (.string (text.extract own.toNat tt.toNat)) W := fun W => run_slice_string (P := Try.prog) W 9 text .i64 .i64 own tt Try.underlying9 (by omega) (by omega) (by omega)
  have nv : ∀ k, ¬ ok k → some k ≠ v.ownBlock := fun k hk e => hk (hR.1 k e.symm)
  have nw : ¬ ok gw := fun h => (hok _ h).1 rfl
  have no_ : ¬ ok go := fun h => (hok _ h).2.1 rfl
  have nt : ¬ ok gt := fun h => (hok _ h).2.2 rfl
  have lw : gw < w.heap.size := (Array.getElem?_eq_some_iff.1 hw).1
  have lo : go < w.heap.size := (Array.getElem?_eq_some_iff.1 ho).1
  have lt_ : gt < w.heap.size := (Array.getElem?_eq_some_iff.1 htx).1
  have hwr : IntKind.i64.wrap (tt - own) = tt - own := delta_Pieces_1.wr (by omega) (by omega)
  go_enter Try.func26, Try.ntmps26
  go_wp2
  have HB := Aside0.mk hB
  have HRR := Aside0.mk hR
  go_region_law ((refine Kd.R_append_step k34 (w0 := w0) (W := w.drew) w0.heap.size (by rfl) _ _ 23 34 _ 40 (by rfl) Try.underlying23 info34 (by rfl) (by decide) (by decide) v xs ⟨false, 0, tt - own, text.extract own.toNat tt.toNat⟩ _ ok (fun _ => False) (by rfl) (by rfl) (k34_mkM _ _ _ _) (fun _ h => h.elim) (fun k hk => hfr k hk) (Kd.R_drew HRR.out) (below_drew1 HB.out) (below_size (below_drew1 HB.out)) (by omega) ?_; intro v1 w1 hR1 hB1 hg1 hat1; obtain ⟨A1, c1, e1⟩ := Kd.R_slice hR1; subst e1; have co1 := (World.cell?_of_block (w := w) (a := ⟨go, 0, none⟩) (hg1.block go lo (nv go no_))).trans co; have fo1 := (World.frozen?_of_block (w := w) (a := ⟨go, 0, none⟩) (hg1.block go lo (nv go no_))).trans fo; have cw1 := (World.cell?_of_block (w := w) (a := ⟨gw, 0, none⟩) (hg1.block gw lw (nv gw nw))).trans cw; have ct1 := (World.cell?_of_block (w := w) (a := ⟨gt, 0, none⟩) (hg1.block gt lt_ (nv gt nt))).trans ct))
  all_goals
    (try go_wp2)
    first | go_end0 | ((try simp only [Exit.inBlock, Exit.then]); refine bodyPost_ret (results_none rfl _ _ _) rfl ?_)
    exact ⟨rfl, _, (Below.heap_setCell w1 _ _ gw hd1).trans ((hg1.block gw lw (nv gw nw)).trans hw), one_setCell ((hg1.block go lo (nv go no_)).trans ho), (Below.heap_setCell w1 _ _ gt hd2).trans ((hg1.block gt lt_ (nv gt nt)).trans htx), (by have q := Kd.R_far (p := ⟨go, 0, none⟩) hR1 (fun k hk => (hok k hk).2.1) (.slice A1 (xs.length + 1) c1); rw [List.length_append, List.length_singleton] at q; exact q), hB1.setCell hgo _, fun k hk hn hne => (Below.heap_setCell w1 _ _ k hne).trans (hg1.block k hk (nv k hn))⟩
def delta_Pieces.own_ (text : ByteArray) (own i : Nat) : List S34 := if own < i then [⟨false, 0, (i : Int) - (own : Int), text.extract own i⟩] else []
def delta_Pieces.go (base text : ByteArray) : Nat → Nat → Nat → List S34 → Option (List S34)
  | 0, _, _, _ => none
  | f + 1, i, own, out =>
    if i + 8 ≤ text.size then
      match delta_index.at_ base (text.extract i (i + 8)).data.toList (base.size - 7) with
      | none => delta_Pieces.go base text f (i + 1) own out
      | some k => delta_Pieces.go base text f (i + M.alike ((M.bs base).drop k) ((M.bs text).drop i)) (i + M.alike ((M.bs base).drop k) ((M.bs text).drop i)) (out ++ delta_Pieces.own_ text own i ++ [⟨true, (k : Int), (M.alike ((M.bs base).drop k) ((M.bs text).drop i) : Int), ⟨#[]⟩⟩])
    else some (out ++ delta_Pieces.own_ text own text.size)
def delta_Pieces.f (base text : ByteArray) : Option (List S34) := if base.size ≤ 1000000000 ∧ text.size ≤ 100000000 then delta_Pieces.go base text (text.size + 1) 0 0 [] else none
theorem delta_index.at_eq (base : ByteArray) (key : List UInt8) : ∀ (i j : Nat), delta_index.at_ base key i = some j → (base.extract j (j + 8)).data.toList = key
  | 0, j, h => by cases h
  | i + 1, j, h => by
    rw [delta_index.at_] at h
    split at h
    · rename_i q hq
      obtain rfl := Option.some.inj h; exact delta_index.at_eq base key i _ hq
    · split at h
      · rename_i e; cases h; exact e
      · cases h
theorem delta_Pieces.met {base text : ByteArray} {i k : Nat} (h : delta_index.at_ base (text.extract i (i + 8)).data.toList (base.size - 7) = some k) (hi : i + 8 ≤ text.size) :
    k + 8 ≤ base.size ∧ 8 ≤ M.alike ((M.bs base).drop k) ((M.bs text).drop i) := by
  have h1 := delta_index.at_lt _ _ _ _ h
  have h2 : M.bs (base.extract k (k + 8)) = M.bs (text.extract i (i + 8)) := delta_index.at_eq _ _ _ _ h
  rw [M.bs_extract, M.bs_extract, Nat.add_sub_cancel_left, Nat.add_sub_cancel_left] at h2
  refine ⟨by omega, M.alike_ge 8 _ _ ?_ ?_ h2⟩
  · rw [List.length_drop, M.bs_length]; omega
  · rw [List.length_drop, M.bs_length]; omega
theorem delta_Pieces.own_len (text : ByteArray) (own i : Nat) : (delta_Pieces.own_ text own i).length ≤ 1 := by
  unfold delta_Pieces.own_; split <;> simp
theorem delta_Pieces.map_at {P : Program} {k : TypeId} {R : Value → Option (DataW Unit × List MemPlace)} {w w' : World} {b n : Nat} {D : DataW Unit} (h : w.ownsMap P k R b n D) (hb : w'.heap[b]? = w.heap[b]?) : w'.ownsMap P k R b n D := by
  obtain ⟨es, clock, h1, h2⟩ := h
  exact ⟨es, clock, hb.trans h1, h2⟩
theorem delta_Pieces.flush (gw go gt : Nat) (own i : Nat) (text : ByteArray) (v : Value) (xs : List S34) (ok : Nat → Prop) (w0 w : World) (hB : Below w0.heap.size w0 w) (hw : w.heap[gw]? = some (.cells #[.int .i64 own] 3 (0, 0))) (ho : w.heap[go]? = some (.cells #[v] 23 (0, 0))) (htx : w.heap[gt]? = some (.cells #[.string text] 9 (0, 0)))
    (hR : Kd.R k34 34 w w0.heap.size ok v xs) (hz : i ≤ text.size) (hmax : text.size ≤ 1000000000) (hl : xs.length < 1000000000) (hfr : ∀ k, w.heap.size ≤ k → ok k) (hok : ∀ k, ok k → k ≠ gw ∧ k ≠ go ∧ k ≠ gt) (hd1 : gw ≠ go) (hd2 : gt ≠ go) (hgo : w0.heap.size ≤ go) :
    Calls Try.prog 26 #[.int .i64 (i : Int), .pointer (some ⟨gw, 0, none⟩), .pointer (some ⟨go, 0, none⟩), .pointer (some ⟨gt, 0, none⟩)] w fun e w' => e = .returned (.tuple #[]) ∧ ∃ v', w'.heap[gw]? = some (.cells #[.int .i64 own] 3 (0, 0)) ∧ w'.heap[go]? = some (.cells #[v'] 23 (0, 0)) ∧ w'.heap[gt]? = some (.cells #[.string text] 9 (0, 0)) ∧
      Kd.R k34 34 w' w0.heap.size ok v' (xs ++ delta_Pieces.own_ text own i) ∧ Below w0.heap.size w0 w' ∧ (∀ k, k < w.heap.size → ¬ ok k → k ≠ go → w'.heap[k]? = w.heap[k]?) := by
  unfold delta_Pieces.own_
  by_cases h : own < i
  · rw [if_pos h]
    have := delta_Pieces_1.one gw go gt own i text v xs ok w0 w hB hw ho htx hR (by omega) (by omega) (by omega) (by omega) hl hfr hok hd1 hd2 hgo
    rw [Int.toNat_natCast, Int.toNat_natCast] at this
    exact this
  · rw [if_neg h, List.append_nil]
    refine (delta_Pieces_1.skip gw go gt own i w hw (by omega)).mono ?_
    rintro e w' ⟨he, hw'⟩
    subst he hw'
    exact ⟨rfl, v, hw, ho, htx, hR, hB, fun _ _ _ _ => rfl⟩
set_option maxHeartbeats 16000000 in
set_option maxRecDepth 100000 in
theorem delta_Pieces.calls (base text : ByteArray) (r : List S34) (w : World) (h : delta_Pieces.f base text = some r) :
    Calls Try.prog 12 #[.string base, .string text] w fun e w' => ∃ v0_ : Value, e = .returned v0_ ∧ Kd.R k34 34 w' w.heap.size (fun _ => True) v0_ r ∧ Below w.heap.size w w' := by
  unfold delta_Pieces.f at h
  split at h
  case isFalse => cases h
  case isTrue hh =>
  obtain ⟨hb, ht⟩ := hh
  have HG := Aside0.mk h
  clear h
  go_enter Try.func12, Try.ntmps12
  -- 25 delta_index.calls
  go_wp2_with (first | (go_at_call 25; refine (delta_index.any base _ (by omega)).mono ?_; rintro e w1 ⟨B, m, D, rfl, hB0, hmap0, hsays0, hbel0⟩; have HB0 := Aside0.mk hB0; have HM0 := Aside0.mk hmap0; have HS0 := Aside0.mk hsays0; have HL0 := Aside0.mk hbel0; clear hB0 hmap0 hsays0 hbel0))
  have hgB : w.heap.size + 1 ≤ B := by have := HB0.out; simpa using this
  have hBw1 : B < w1.heap.size := HM0.out.lt
  go_loopw [9] (fun i wr => ∃ (k own f : Nat) (v : Value) (out : List S34), i = .int .i64 (k : Int) ∧ own ≤ k ∧ k ≤ text.size ∧ out.length ≤ own ∧ wr.heap[w.heap.size]? = some (.cells #[.string text] 9 (0, 0)) ∧ wr.heap[w1.heap.size]? = some (.cells #[v] 23 (0, 0)) ∧ wr.heap[w1.heap.size + 1]? = some (.cells #[.int .i64 (own : Int)] 3 (0, 0)) ∧
      Aside0 (wr.ownsMap Try.prog 9 (plainElem Try.prog 3) B m D) ∧ Aside0 (Kd.R k34 34 wr w.heap.size (fun q => q ≠ w.heap.size ∧ q ≠ w1.heap.size ∧ q ≠ w1.heap.size + 1 ∧ q ≠ B) v out) ∧ Aside0 (Below w.heap.size w wr) ∧ Aside0 (delta_Pieces.go base text f k own out = some r)) (fun i _ => text.size - (intOf i).toNat)
  case atStart =>
    refine ⟨0, 0, text.size + 1, .slice none 0 0, [], rfl, Nat.le_refl _, Nat.zero_le _, Nat.le_refl _, ?_, ?_, ?_, ⟨?_⟩, ⟨Kd.R_nil _ _ _ _ _⟩, ⟨?_⟩, HG⟩
    · rw [Below.heap_alloc _ _ _ (by simp; omega), Below.heap_alloc _ _ _ (by omega), HL0.out.block _ (by simp)]
      exact heap_alloc_new _ _
    · rw [Below.heap_alloc _ _ _ (by simp)]
      exact heap_alloc_new _ _
    · simpa using heap_alloc_new (w1.alloc (.cells #[.slice none 0 0] 23)) (.cells #[.int .i64 0] 3)
    · exact (HM0.out.alloc _).alloc _
    · exact ((((Below.refl _ w).alloc (Nat.le_refl _) _).trans (HL0.out.mono (by simp))).alloc (by omega) _).alloc (by simp; omega) _
  case round =>
    obtain ⟨k, own, f, v, out, rfl, hok, hkt, hlen, hgt, hgo, hgw, HM, HR, HB, HF⟩ := hrel
    have cT := cell_of_one hgt
    have cO := cell_of_one hgo
    have cW := cell_of_one hgw
    have fO := free_of_one hgo
    have fW := free_of_one hgw
    have lW := lt_of_block hgw
    cases f with
    | zero => exact absurd HF.out (by simp [delta_Pieces.go])
    | succ f =>
    by_cases hlt : k + 8 ≤ text.size
    · have hF := HF.out
      rw [delta_Pieces.go, if_pos hlt] at hF
      have hex : (text.extract k (k + 8)).size ≤ maxLen := by rw [ByteArray.size_extract]; unfold maxLen; omega
      have HKEY := Aside0.mk (Go.WideMaps.keyOf_string_mk Try.underlying9 hex)
      have hsl : ∀ W : World, (Instr.slice 9 (.string text) (some (.int .i64 (k : Int))) (some (.int .i64 ((k : Int) + 8))) none).run Try.prog W = .ok (.string (text.extract k (k + 8))) W := by
        intro W
        have := run_slice_string (P := Try.prog) W 9 text .i64 .i64 (k : Int) ((k : Int) + 8) Try.underlying9 (by omega) (by omega) (by omega)
        rw [show ((k : Int) + 8).toNat = k + 8 by omega, Int.toNat_natCast] at this
        exact this
      have hsays := HS0.out (text.extract k (k + 8)).data.toList
      have hmet : ∀ q, delta_index.at_ base (text.extract k (k + 8)).data.toList (base.size - 7) = some q → q + 8 ≤ base.size ∧ 8 ≤ M.alike ((M.bs base).drop q) ((M.bs text).drop k) := fun q h1 => delta_Pieces.met h1 hlt
      generalize text.extract k (k + 8) = sub at hF hex HKEY hsl hsays hmet
      cases hat0 : delta_index.at_ base sub.data.toList (base.size - 7) with
      | none =>
        rw [hat0] at hF hsays
        have hhas : Maps.has D (.string sub.data.toList) = false := hsays.1
        clear hsays hmet hat0 HF
        have HF := Aside0.mk hF
        clear hF
        go_wp2_with (first | (at_lookup; refine wpList_lookup_own_ok_int _ rfl _ _ 50 rfl 9 3 .i64 delta_index.law Try.underlying50 Try.underlying3 (delta_index.zero_ _) B m D rfl HM.out _ _ rfl HKEY.out ?_; intro c hat hwc; skip))
        go_roundw
        case rel => exact ⟨k + 1, own, f, v, out, by go_num, by omega, by omega, hlen, hgt, hgo, hgw, HM, HR, HB, HF⟩
        case measure => simp [intOf]; omega
      | some j =>
        rw [hat0] at hF hsays
        have hhas : Maps.has D (.string sub.data.toList) = true := hsays.1
        obtain ⟨hj, hn8⟩ := hmet j hat0
        have hal := M.alike_le ((M.bs base).drop j) ((M.bs text).drop k)
        rw [List.length_drop, List.length_drop, M.bs_length, M.bs_length] at hal
        have HA : Aside0 (delta_alike.f (base.extract j base.size) (text.extract k text.size) = some (M.alike ((M.bs base).drop j) ((M.bs text).drop k) : Int)) := by
          refine ⟨?_⟩
          unfold delta_alike.f
          rw [if_pos (by rw [ByteArray.size_extract]; omega), M.bs_drop, M.bs_drop]
        have HAT := Aside0.mk hsays.2
        clear hsays hmet hat0 HF
        simp only at hF
        generalize M.alike ((M.bs base).drop j) ((M.bs text).drop k) = n at HA hF hn8 hal
        obtain ⟨xs3, hx3⟩ : ∃ xs3, xs3 = out ++ delta_Pieces.own_ text own k ++ [⟨true, (j : Int), (n : Int), ⟨#[]⟩⟩] := ⟨_, rfl⟩
        rw [← hx3] at hF
        have hl3 : xs3.length ≤ k + n := by
          have := delta_Pieces.own_len text own k
          rw [hx3, List.length_append, List.length_append, List.length_singleton]; omega
        have HX := Aside0.mk hx3
        have HF := Aside0.mk hF
        clear hF hx3
        have hs1 : ∀ W : World, (Instr.slice 9 (.string base) (some (.int .i64 (j : Int))) none none).run Try.prog W = .ok (.string (base.extract j base.size)) W := by
          intro W
          have := run_slice_string_l (P := Try.prog) W 9 base Try.underlying9 .i64 (j : Int) (by omega) (by omega)
          rw [Int.toNat_natCast] at this
          exact this
        have hs2 : ∀ W : World, (Instr.slice 9 (.string text) (some (.int .i64 (k : Int))) none none).run Try.prog W = .ok (.string (text.extract k text.size)) W := by
          intro W
          have := run_slice_string_l (P := Try.prog) W 9 text Try.underlying9 .i64 (k : Int) (by omega) (by omega)
          rw [Int.toNat_natCast] at this
          exact this
        go_wp2_with (first | (at_lookup; refine wpList_lookup_own_ok_int _ rfl _ _ 50 rfl 9 3 .i64 delta_index.law Try.underlying50 Try.underlying3 (delta_index.zero_ _) B m D rfl HM.out _ _ rfl HKEY.out ?_; intro c hat hwc; obtain rfl : c = (j : Int) := by { have q := hat.symm.trans HAT.out; simpa using q }) | (go_at_call 26; refine (delta_Pieces.flush (w1.heap.size + 1) w1.heap.size w.heap.size own k text v out _ w _ HB.out hgw hgo hgt HR.out (by omega) (by omega) (by omega) (fun q hq => ⟨by omega, by omega, by omega, by omega⟩) (fun q hq => ⟨hq.2.2.1, hq.2.1, hq.1⟩) (by omega) (by omega) (by omega)).mono ?_; rintro e w2 ⟨rfl, v2, hgw2, hgo2, hgt2, hR2, hB2, hk2⟩; have cO2 := cell_of_one hgo2; have fO2 := free_of_one hgo2; have cT2 := cell_of_one hgt2; have cW2 := cell_of_one hgw2; have fW2 := free_of_one hgw2; have HR2 := Aside0.mk hR2; have HB2 := Aside0.mk hB2; have HK2 := Aside0.mk hk2; clear hR2 hB2 hk2))
        have hnb : ∀ q, q = w.heap.size ∨ q = w1.heap.size ∨ q = w1.heap.size + 1 ∨ q = B → some q ≠ v2.ownBlock := fun q hq e => by
          have := HR2.out.1 q e.symm
          omega
        have l0 := lt_of_block hgt2
        have l1 := lt_of_block hgo2
        have l2 := lt_of_block hgw2
        have l3 : B < w2.heap.size := by omega
        have hmB : w2.heap[B]? = wr.heap[B]? := HK2.out B (by omega) (by simp) (by omega)
        have HM2 := Aside0.mk (delta_Pieces.map_at HM.out hmB)
        have HNB := Aside0.mk hnb
        have hgt2' := Aside0.mk hgt2
        have hgo2' := Aside0.mk hgo2
        have hgw2' := Aside0.mk hgw2
        clear cT cO cW fO fW hgt hgo hgw hmB hnb hgt2 hgo2 hgw2 HM HK2 HB HR cO2 fO2 cW2 fW2
        go_region_with (first | (go_at_call 27; refine (delta_alike.calls (base.extract j base.size) (text.extract k text.size) (n : Int) _ HA.out).mono ?_; rintro e w3 ⟨rfl, ⟨nd, rfl⟩⟩))
        all_goals
          have cO2 := cell_of_one hgo2'.out
          have fO2 := free_of_one hgo2'.out
          have hol := delta_Pieces.own_len text own k
          have hlo : (out ++ delta_Pieces.own_ text own k).length ≤ k + 1 := by rw [List.length_append]; omega
          go_wp2_with (first | (at_builtin; refine Kd.R_append k34 (w0 := w) w.heap.size rfl _ _ 23 34 _ 40 rfl Try.underlying23 info34 rfl (by decide) (by decide) v2 _ ⟨true, (j : Int), (n : Int), ⟨#[]⟩⟩ _ (fun q => q ≠ w.heap.size ∧ q ≠ w1.heap.size ∧ q ≠ w1.heap.size + 1 ∧ q ≠ B) (fun _ => False) rfl rfl (k34_mkM _ _ _ _) (fun _ h => h.elim) ?hfr (Kd.R_drewN HR2.out _) (pw_below_drewN HB2.out _) ?hbs ?hln ?_; (case hfr => intro q hq; have hq : w2.heap.size ≤ q := hq; exact ⟨by omega, by omega, by omega, by omega⟩); (case hbs => exact Nat.le_of_lt l0); (case hln => omega); intro v3 w3 hR3 hB3 hg3 hat3; rw [← HX.out] at hR3; obtain ⟨A3, c3, e3⟩ := Kd.R_slice hR3; subst e3; have hgo3 := (hg3.block w1.heap.size l1 (HNB.out _ (.inr (.inl rfl)))).trans hgo2'.out; have hgw3 := (hg3.block (w1.heap.size + 1) l2 (HNB.out _ (.inr (.inr (.inl rfl))))).trans hgw2'.out; have cO3 := cell_of_one hgo3; have fO3 := free_of_one hgo3; have cW3 := cell_of_one hgw3; have fW3 := free_of_one hgw3; have HR3 := Aside0.mk hR3; have HB3 := Aside0.mk hB3; have HG3 := Aside0.mk hg3; have HO3 := Aside0.mk hgo3; have HW3 := Aside0.mk hgw3; clear hR3 hB3 hg3 hat3 hgo3 hgw3))
          go_roundw
          case rel =>
            have hg0 := (HG3.out.block w.heap.size l0 (HNB.out _ (.inl rfl))).trans hgt2'.out
            have hgB := HG3.out.block B l3 (HNB.out _ (.inr (.inr (.inr rfl))))
            refine ⟨k + n, k + n, f, _, xs3, by go_num, Nat.le_refl _, by omega, hl3, (Below.heap_setCell _ _ _ _ (by show w.heap.size ≠ w1.heap.size + 1; omega)).trans ((Below.heap_setCell _ _ _ _ (by show w.heap.size ≠ w1.heap.size; omega)).trans hg0), (Below.heap_setCell _ _ _ _ (by show w1.heap.size ≠ w1.heap.size + 1; omega)).trans (one_setCell HO3.out), ?_, ⟨delta_Pieces.map_at HM2.out ((Below.heap_setCell _ _ _ _ (by show B ≠ w1.heap.size + 1; omega)).trans ((Below.heap_setCell _ _ _ _ (by show B ≠ w1.heap.size; omega)).trans hgB))⟩, ⟨Kd.R_far (Kd.R_far HR3.out (fun q hq => hq.2.1) _) (fun q hq => hq.2.2.1) _⟩, ⟨(HB3.out.setCell (by show w.heap.size ≤ w1.heap.size; omega) _).setCell (by show w.heap.size ≤ w1.heap.size + 1; omega) _⟩, HF⟩
            · first | exact one_setCell ((Below.heap_setCell _ _ _ _ (by show w1.heap.size + 1 ≠ w1.heap.size; omega)).trans HW3.out) | (push_cast; exact one_setCell ((Below.heap_setCell _ _ _ _ (by show w1.heap.size + 1 ≠ w1.heap.size; omega)).trans HW3.out))
          case measure => simp [intOf]; omega
    · have hF := HF.out
      rw [delta_Pieces.go, if_neg hlt] at hF
      obtain rfl := Option.some.inj hF
      clear HF hF
      go_wp2_with (first | (go_at_call 26; refine (delta_Pieces.flush (w1.heap.size + 1) w1.heap.size w.heap.size own text.size text v out _ w _ HB.out hgw hgo hgt HR.out (by omega) (by omega) (by omega) (fun q hq => ⟨by omega, by omega, by omega, by omega⟩) (fun q hq => ⟨hq.2.2.1, hq.2.1, hq.1⟩) (by omega) (by omega) (by omega)).mono ?_; rintro e w2 ⟨rfl, v2, hgw2, hgo2, hgt2, hR2, hB2, hk2⟩; have cO2 := cell_of_one hgo2; have fO2 := free_of_one hgo2; have cT2 := cell_of_one hgt2; have cW2 := cell_of_one hgw2; have fW2 := free_of_one hgw2; have HR2 := Aside0.mk hR2; have HB2 := Aside0.mk hB2; have HK2 := Aside0.mk hk2; clear hR2 hB2 hk2))
      go_ret
      exact ⟨v2, rfl, Kd.R_mono HR2.out (fun _ _ => trivial), HB2.out⟩
end

/-! ### pleachlaw11_awake: function 7 -/
def pleachlaw11_awake.f  : Option (Bool) := (delta_Pieces.f (⟨#[97, 98, 99, 100, 101, 102, 103, 104, 105, 106]⟩ : ByteArray) (⟨#[97, 98, 99, 100, 101, 102, 103, 104, 88]⟩ : ByteArray)).bind fun t103 => ((pleachref11_Same.f t103 (([(⟨true, 0, 8, (⟨#[]⟩ : ByteArray)⟩ : S34), (⟨false, 0, 1, (⟨#[88]⟩ : ByteArray)⟩ : S34)] : List (S34)))).bind fun t109 => (some t109))
set_option maxHeartbeats 8000000 in
set_option maxRecDepth 100000 in
theorem pleachlaw11_awake.calls  (r : Bool) (w : World) (h : pleachlaw11_awake.f  = some r) :
    Calls Try.prog 7 #[] w fun e w' => e = .returned (.bool r) ∧ Below w.heap.size w w' := by
  have hu34 := Try.underlying34
  have HB := Aside0.mk (Below.refl w.heap.size w)
  have H : ((delta_Pieces.f (⟨#[97, 98, 99, 100, 101, 102, 103, 104, 105, 106]⟩ : ByteArray) (⟨#[97, 98, 99, 100, 101, 102, 103, 104, 88]⟩ : ByteArray)).bind fun t103 => ((pleachref11_Same.f t103 (([(⟨true, 0, 8, (⟨#[]⟩ : ByteArray)⟩ : S34), (⟨false, 0, 1, (⟨#[88]⟩ : ByteArray)⟩ : S34)] : List (S34)))).bind fun t109 => (some t109))) = some r := h
  clear h
  replace H := Option.bind_eq_some_iff.mp H
  obtain ⟨t103, A10, H⟩ := H
  replace H : ((pleachref11_Same.f t103 (([(⟨true, 0, 8, (⟨#[]⟩ : ByteArray)⟩ : S34), (⟨false, 0, 1, (⟨#[88]⟩ : ByteArray)⟩ : S34)] : List (S34)))).bind fun t109 => (some t109)) = some r := H
  have A1 := Aside0.mk A10
  clear A10
  obtain ⟨y106, hy106⟩ : ∃ y_ : List (S34), y_ = (([(⟨true, 0, 8, (⟨#[]⟩ : ByteArray)⟩ : S34), (⟨false, 0, 1, (⟨#[88]⟩ : ByteArray)⟩ : S34)] : List (S34))) := ⟨_, rfl⟩
  replace H : ((pleachref11_Same.f t103 y106).bind fun t109 => (some t109)) = some r := by first | (rw [hy106]; with_reducible exact H) | (have H2_ := (Option.bind_some _ _).symm.trans H; rw [hy106]; with_reducible exact H2_) | (have H2_ := (Option.bind_some _ _).symm.trans H; with_reducible exact H2_) | with_reducible exact H | (rw [hy106]; exact H) | exact H
  have Ny106 := Aside0.mk hy106
  clear hy106
  replace H := Option.bind_eq_some_iff.mp H
  obtain ⟨t109, A20, H⟩ := H
  replace H : (some t109) = some r := H
  have A2 := Aside0.mk A20
  clear A20
  obtain rfl := Option.some.inj H
  go_enter Try.func7, Try.ntmps7
  go_wp2_with (first | ((with_reducible refine gate_callee (f := 12) rfl ?_); refine M.goes (some 1) Try.func12 #[.string (⟨#[97, 98, 99, 100, 101, 102, 103, 104, 105, 106]⟩ : ByteArray), .string (⟨#[97, 98, 99, 100, 101, 102, 103, 104, 88]⟩ : ByteArray)] rfl ?_; (with_reducible refine (delta_Pieces.calls (⟨#[97, 98, 99, 100, 101, 102, 103, 104, 105, 106]⟩ : ByteArray) (⟨#[97, 98, 99, 100, 101, 102, 103, 104, 88]⟩ : ByteArray) t103 _ A1.out).mono ?_); rintro e w3 ⟨v104, rfl, ho0, hb⟩; refine ⟨_, rfl, ?_⟩; have n0_ := Aside0.mk (Kd.R_lower ho0 (below_size (M.up HB))); have n1_ := M.upS HB hb; clear HB; have HO105 := n0_; have HB := n1_; clear n0_ n1_; (try clear hb); (try clear ho0)) | ((with_reducible refine gate_dst (N := 4) rfl ?_); refine Kd.R_lit k34 _ 34 ?hg (N := 4) ?hd (xs := ([(⟨true, 0, 8, (⟨#[]⟩ : ByteArray)⟩ : S34), (⟨false, 0, 1, (⟨#[88]⟩ : ByteArray)⟩ : S34)] : List (S34))) (inner := [.bool true, .int .i64 0, .int .i64 8, .string (⟨#[]⟩ : ByteArray), .bool false, .int .i64 0, .int .i64 1, .string (⟨#[88]⟩ : ByteArray)]) (ok := fun _ => True) (okp := fun _ => True) ?hr ?hp (fun _ hk => hk) trivial (Below.refl _ _) (Nat.le_refl _) (by simp) ?_; (case hd => rfl); (case hg => rfl); (case hr => first | (go_simp; done) | (go_simp; rfl)); (case hp => exact (Reps.c4 (show Kd.M k34 _ _ _ (⟨true, 0, 8, (⟨#[]⟩ : ByteArray)⟩ : S34) [.bool true, .int .i64 0, .int .i64 8, .string (⟨#[]⟩ : ByteArray)] from (k34_mkM _ _ _ (⟨true, 0, 8, (⟨#[]⟩ : ByteArray)⟩ : S34) )) (Reps.c4 (show Kd.M k34 _ _ _ (⟨false, 0, 1, (⟨#[88]⟩ : ByteArray)⟩ : S34) [.bool false, .int .i64 0, .int .i64 1, .string (⟨#[88]⟩ : ByteArray)] from (k34_mkM _ _ _ (⟨false, 0, 1, (⟨#[88]⟩ : ByteArray)⟩ : S34) )) (Reps.none _ _)))); intro v107 w4 ho5 hb hg_ hnew_; clear hg_ hnew_; (first | rw [← Ny106.out] at ho5 | (simp only [Int.reduceToNat] at ho5; rw [← Ny106.out] at ho5)); have n0_ := Aside0.mk (Kd.R_elder' (M.ro HO105) (Kd.R_base ho5) hb); have n1_ := Aside0.mk (Kd.R_lower (Kd.R_new' ho5 (Kd.R_lt (M.ro HO105))) (below_size (M.up HB))); have n2_ := M.upS HB hb; clear HO105 HB; have HO105 := n0_; have HO108 := n1_; have HB := n2_; clear n0_ n1_ n2_; clear hb ho5; obtain ⟨Ao6, co6, eo6⟩ := Kd.R_slice HO105.out; subst eo6; obtain ⟨Ao7, co7, eo7⟩ := Kd.R_slice HO108.out; subst eo7) | ((with_reducible refine gate_callee (f := 11) rfl ?_); refine M.goes (some 5) Try.func11 #[.slice Ao6 t103.length co6, .slice Ao7 y106.length co7] rfl ?_; (with_reducible refine (pleachref11_Same.calls _ _ t103 _ _ y106 t109 _ ?side1 ?side2 ?side3 ?side4 A2.out).mono ?_); (case side1 => repeat (first | exact (Kd.R_reads' HO105.out).2.2 | (with_reducible refine Kd.C_alloc ?_ _) | (with_reducible refine Kd.C_drewN ?_ _) | (with_reducible refine Kd.C_drew ?_))); (case side2 => exact (Kd.R_reads' HO105.out).2.1); (case side3 => repeat (first | exact (Kd.R_reads' HO108.out).2.2 | (with_reducible refine Kd.C_alloc ?_ _) | (with_reducible refine Kd.C_drewN ?_ _) | (with_reducible refine Kd.C_drew ?_))); (case side4 => exact (Kd.R_reads' HO108.out).2.1); rintro e w' ⟨rfl, ⟨nd, rfl⟩⟩; refine ⟨_, rfl, ?_⟩))
  go_ret
  exact M.fin (M.up HB)

end Go.Proofs.Ytadpicphohobbaa.EDeltaTakes
