-- Written by this session's own program (wip/tools/ext.py) for this claim; Lean checks it.
import Derived.Test.YtacjpkfpniolmaaDoorEFramePutsx0
import Derived.Test.YtacjpkfpniolmaaDoorEFramePutsx1
import Derived.Test.YtacjpkfpniolmaaDoorEFramePutsx3
import Derived.Test.YtacjpkfpniolmaaDoorEFramePutsx4
namespace Go.Proofs.YtacjpkfpniolmaaDoor.EFramePuts
open Go.RowKit Go.Proofs.YtacjpkfpniolmaaDoorW.PrintWords Go.Proofs.YtacjpkfpniolmaaDoorW.PrintLast Go.Proofs.YtacjpkfpniolmaaDoorW.PrintMore
attribute [local go_sem] M.run_leq M.run_gtr M.run_geq max2_int min2_int max_two min_two max_three min_three max_four min_four   -- for this text's walks alone
set_option linter.unusedVariables false
set_option linter.unusedSimpArgs false

/-! ### pleachref14_Row_p: function 9 -/
def pleachref14_Row_p.l0 : Nat → List ByteArray → ByteArray → Int → Option (ByteArray × Int)
  | 0, _, _, _ => none
  | k + 1, x0, x4, x5 => if x5 < (x0.length : Int) then (if 0 ≤ x5 then ((pleachref14_Wrong.f (rdOf ByteArray.empty x0 x5)).bind fun t231 => (if t231 = 0 then ((pleachref14_Put.f (rdOf ByteArray.empty x0 x5)).bind fun t233 => (if x4.size + t233.size ≤ 9223372036854775807 then (pleachref14_Row_p.l0 k x0 (x4 ++ t233) (wrap64 (x5 + 1))) else (none))) else (some ((⟨#[]⟩ : ByteArray), t231)))) else (none)) else (some (x4, 0))
def pleachref14_Row_p.f (k : Nat) (l0 : List ByteArray) : Option (ByteArray × Int) := pleachref14_Row_p.l0 k l0 (⟨#[]⟩ : ByteArray) 0
theorem pleachref14_Row_p.mono_l : ∀ k, (∀ y0 y1 y2, LeO (pleachref14_Row_p.l0 k y0 y1 y2) (pleachref14_Row_p.l0 (k + 1) y0 y1 y2))
  | 0 => fun _ _ _ r h => by simp [pleachref14_Row_p.l0] at h
  | k + 1 => by
    have ih0 := pleachref14_Row_p.mono_l k
    · intro y0 y1 y2
      unfold pleachref14_Row_p.l0
      repeat' first
      | (with_reducible exact ih0 _ _ _)
      | (with_reducible exact LeO.refl _)
      | (with_reducible exact LeO.none _)
      | (with_reducible refine LeO.ite ?_ ?_)
      | (with_reducible refine LeO.bind ?_ (fun _ => ?_))
      | exact ih0 _ _ _
      | exact LeO.none _
      | refine LeO.ite ?_ ?_
      | refine LeO.bind ?_ (fun _ => ?_)
theorem pleachref14_Row_p.mono : ∀ a0 k, LeO (pleachref14_Row_p.f k a0) (pleachref14_Row_p.f (k + 1) a0) := by
  intro a0 k
  have ih0 := pleachref14_Row_p.mono_l k
  unfold pleachref14_Row_p.f
  repeat' first
      | (with_reducible exact ih0 _ _ _)
      | (with_reducible exact LeO.refl _)
      | (with_reducible exact LeO.none _)
      | (with_reducible refine LeO.ite ?_ ?_)
      | (with_reducible refine LeO.bind ?_ (fun _ => ?_))
      | exact ih0 _ _ _
      | exact LeO.none _
      | refine LeO.ite ?_ ?_
      | refine LeO.bind ?_ (fun _ => ?_)
set_option maxHeartbeats 8000000 in
set_option maxRecDepth 100000 in
theorem pleachref14_Row_p.calls (k : Nat) (A0 : Option Addr) (c0 : Nat) (l0 : List ByteArray) (r1 : ByteArray) (r2 : Int) (w : World) (hr0 : Kd.C Kd.string w A0 l0.length l0) (hc0 : l0.length ≤ c0) (h : pleachref14_Row_p.f k l0 = some (r1, r2)) :
    Calls Tryd.prog 9 #[.slice A0 l0.length c0] w fun e w' => e = .returned (.tuple #[.string r1, .int .i64 r2]) ∧ Below w.heap.size w w' := by
  have HR0 := Aside0.mk hr0
  have HC0 := Aside0.mk hc0
  clear hr0 hc0
  have HB := Aside0.mk (Below.refl w.heap.size w)
  have H : (pleachref14_Row_p.l0 k l0 (⟨#[]⟩ : ByteArray) 0) = some (r1, r2) := h
  clear h
  have H' := Aside0.mk H
  clear H
  go_enter Tryd.func9, Tryd.ntmps9
  go_wp2
  go_loopg [4, 5] k (fun kq v4 v5 w' => ∃ (x4_1 : ByteArray) (x5_1 : Int), v4 = .string x4_1 ∧ v5 = .int .i64 x5_1 ∧ Aside0 (pleachref14_Row_p.l0 kq l0 x4_1 x5_1 = some (r1, r2)) ∧ Aside0 (kq ≤ k) ∧ Aside0 (Below w.heap.size w w'))
  case atStart => exact ⟨((⟨#[]⟩ : ByteArray)), (0), (by first | rfl | (simp; done) | (simp [*]; done) | (simp [M.isEmpty_bne]; done)), (by first | rfl | (simp; done) | (simp [*]; done) | (simp [M.isEmpty_bne]; done)), H', ⟨Nat.le_refl _⟩, ⟨M.up HB⟩⟩
  case round =>
    clear H'
    obtain ⟨x4_1, x5_1, rfl, rfl, HA, HK1, HB⟩ := hrel
    cases gk with
    | zero => exact absurd HA.out (by simp [pleachref14_Row_p.l0])
    | succ k1 =>
      have H := HA.out
      clear HA
      simp only [pleachref14_Row_p.l0] at H
      by_cases c2 : x5_1 < (l0.length : Int)
      · rw [if_pos c2] at H
        have c2b0 : decide (x5_1 < (l0.length : Int)) = true := decide_eq_true c2
        clear c2
        by_cases c3 : 0 ≤ x5_1
        · rw [if_pos c3] at H
          have c3b0 : decide (0 ≤ x5_1) = true := decide_eq_true c3
          clear c3
          replace H := Option.bind_eq_some_iff.mp H
          obtain ⟨t231, A40, H⟩ := H
          replace H : (if t231 = 0 then ((pleachref14_Put.f (rdOf ByteArray.empty l0 x5_1)).bind fun t233 => (if x4_1.size + t233.size ≤ 9223372036854775807 then (pleachref14_Row_p.l0 k1 l0 (x4_1 ++ t233) (wrap64 (x5_1 + 1))) else (none))) else (some ((⟨#[]⟩ : ByteArray), t231))) = some (r1, r2) := H
          have A4 := Aside0.mk A40
          clear A40
          by_cases c5 : t231 = 0
          · rw [if_pos c5] at H
            have c5b0 : (t231 == 0) = true := beq_iff_eq.mpr c5
            have c5b1 : (t231 != 0) = false := bne_eq_false_iff_eq.mpr c5
            clear c5
            replace H := Option.bind_eq_some_iff.mp H
            obtain ⟨t233, A60, H⟩ := H
            replace H : (if x4_1.size + t233.size ≤ 9223372036854775807 then (pleachref14_Row_p.l0 k1 l0 (x4_1 ++ t233) (wrap64 (x5_1 + 1))) else (none)) = some (r1, r2) := H
            have A6 := Aside0.mk A60
            clear A60
            by_cases c7 : x4_1.size + t233.size ≤ 9223372036854775807
            · rw [if_pos c7] at H
              have c7b0 := eq_true c7
              have c7b1 : decide (x4_1.size + t233.size ≤ 9223372036854775807) = true := decide_eq_true c7
              try have c7b2 : (9223372036854775807 < x4_1.size + t233.size) = False := eq_false (Nat.not_lt.2 c7)
              have H' := Aside0.mk H
              clear H
              have p230 : 0 ≤ (x5_1 : Int) := of_decide_eq_true (by first | (with_reducible assumption) | assumption)
              have q230 : x5_1 < (l0.length : Int) := of_decide_eq_true (by first | (with_reducible assumption) | assumption)
              obtain ⟨ad230, e230, hx230_0⟩ := Kd.at_string HR0.out x5_1 p230 q230
              cases e230
              replace hx230_0 := (HB.out.cell (World.block_lt_of_cell? w _ hx230_0)).trans hx230_0
              replace p230 := eq_true p230
              replace q230 := eq_true q230
              go_wp2_with (first | ((with_reducible refine gate_callee (f := 12) rfl ?_); refine M.goes (some 17) Tryd.func12 #[.string (rdOf ByteArray.empty l0 x5_1)] rfl ?_; (with_reducible refine (pleachref14_Wrong.calls (rdOf ByteArray.empty l0 x5_1) t231 _ A4.out).mono ?_); rintro e w' ⟨rfl, ⟨nd, rfl⟩⟩; refine ⟨_, rfl, ?_⟩; have p232 : 0 ≤ (x5_1 : Int) := of_decide_eq_true (by first | (with_reducible assumption) | assumption); have q232 : x5_1 < (l0.length : Int) := of_decide_eq_true (by first | (with_reducible assumption) | assumption); obtain ⟨ad232, e232, hx232_0⟩ := Kd.at_string HR0.out x5_1 p232 q232; obtain rfl : ad230 = ad232 := (by injection e232); replace hx232_0 := (HB.out.cell (World.block_lt_of_cell? w _ hx232_0)).trans hx232_0; replace p232 := eq_true p232; replace q232 := eq_true q232) | ((with_reducible refine gate_callee (f := 10) rfl ?_); refine M.goes (some 26) Tryd.func10 #[.string (rdOf ByteArray.empty l0 x5_1)] rfl ?_; (with_reducible refine (pleachref14_Put.calls (rdOf ByteArray.empty l0 x5_1) t233 _ A6.out).mono ?_); rintro e w8 ⟨rfl, hb⟩; refine ⟨_, rfl, ?_⟩; have n0_ := M.upS HB hb; clear HB; have HB := n0_; clear n0_; (try clear hb)))
              go_roundg k1
              case measure => have := HK1.out; omega
              case rel => exact ⟨(x4_1 ++ t233), (wrap64 (x5_1 + 1)), (by first | rfl | (simp; done) | (simp [*]; done) | (simp [M.isEmpty_bne]; done)), (by first | rfl | (simp; done) | (simp [*]; done) | (simp [M.isEmpty_bne]; done)), H', ⟨by have := HK1.out; omega⟩, ⟨M.up HB⟩⟩
            · rw [if_neg c7] at H
              exact absurd H (by simp)
          · rw [if_neg c5] at H
            have c5b0 : (t231 == 0) = false := beq_eq_false_iff_ne.mpr c5
            have c5b1 : (t231 != 0) = true := bne_iff_ne.mpr c5
            simp only [Option.some.injEq, Prod.mk.injEq] at H
            obtain ⟨rfl, rfl⟩ := H
            have p230 : 0 ≤ (x5_1 : Int) := of_decide_eq_true (by first | (with_reducible assumption) | assumption)
            have q230 : x5_1 < (l0.length : Int) := of_decide_eq_true (by first | (with_reducible assumption) | assumption)
            obtain ⟨ad230, e230, hx230_0⟩ := Kd.at_string HR0.out x5_1 p230 q230
            cases e230
            replace hx230_0 := (HB.out.cell (World.block_lt_of_cell? w _ hx230_0)).trans hx230_0
            replace p230 := eq_true p230
            replace q230 := eq_true q230
            go_wp2_with (first | ((with_reducible refine gate_callee (f := 12) rfl ?_); refine M.goes (some 17) Tryd.func12 #[.string (rdOf ByteArray.empty l0 x5_1)] rfl ?_; (with_reducible refine (pleachref14_Wrong.calls (rdOf ByteArray.empty l0 x5_1) t231 _ A4.out).mono ?_); rintro e w' ⟨rfl, ⟨nd, rfl⟩⟩; refine ⟨_, rfl, ?_⟩))
            go_ret2
            exact M.fin (M.up HB)
        · rw [if_neg c3] at H
          exact absurd H (by simp)
      · rw [if_neg c2] at H
        have c2b0 : decide (x5_1 < (l0.length : Int)) = false := decide_eq_false c2
        clear c2
        simp only [Option.some.injEq, Prod.mk.injEq] at H
        obtain ⟨rfl, rfl⟩ := H
        go_wp2
        go_ret2
        exact M.fin (M.up HB)

-- this session's own plain form
def pleachref14_Row.f (l0 : List ByteArray) : Option (ByteArray × Int) := if l0.length ≤ 1000 then some (M.frow l0) else none
theorem pleachref14_Row.loop (l : List ByteArray) (hl : l.length ≤ 1000) (d : Nat) : ∀ (i : Nat) (acc : List UInt8), i + d = l.length → acc.length ≤ i * 100000 →
    pleachref14_Row_p.l0 (d + 1) l (M.sb acc) (i : Int) = some (M.frowF acc (l.drop i)) := by
  induction d with
  | zero =>
    intro i acc hi ha
    rw [pleachref14_Row_p.l0, if_neg (by omega), List.drop_of_length_le (by omega)]; rfl
  | succ d ih =>
    intro i acc hi ha
    have hlt : i < l.length := by omega
    have hrd : rdOf ByteArray.empty l (i : Int) = l[i] := by simp [rdOf, List.getD, hlt]
    rw [List.drop_eq_getElem_cons hlt]
    unfold pleachref14_Row_p.l0 pleachref14_Wrong.f pleachref14_Put.f
    rw [if_pos (by omega), if_pos (by omega), hrd, Option.bind_some]
    generalize l[i] = s
    rw [M.frowF]
    by_cases hw : M.fwrong s = 0
    · have hz : s.size ≤ 65536 := by
        unfold M.fwrong at hw
        split at hw
        · cases hw
        · split at hw
          · cases hw
          · omega
      have hf := M.frm_length s
      have hv := M.vb_le (s.size + 4) (by omega)
      rw [if_pos hw, if_pos hw, if_pos (by omega), Option.bind_some, if_pos (by rw [M.size_sb, M.size_sb]; omega), ← M.sb_append, M.wrap64_id (by omega) (by omega), show (i : Int) + 1 = ((i + 1 : Nat) : Int) from by omega]
      exact ih (i + 1) _ (by omega) (by rw [List.length_append]; omega)
    · rw [if_neg hw, if_neg hw]; rfl
theorem pleachref14_Row.ev (l : List ByteArray) (r : ByteArray × Int) (h : pleachref14_Row.f l = some r) : ∃ k, pleachref14_Row_p.f k l = some r := by
  unfold pleachref14_Row.f at h
  split at h
  case isFalse => cases h
  case isTrue hh =>
    refine ⟨l.length + 1, ?_⟩
    rw [← h]
    have := pleachref14_Row.loop l hh l.length 0 [] (by omega) (by simp)
    rw [List.drop_zero] at this
    exact this
theorem pleachref14_Row.calls (A0 : Option Addr) (c0 : Nat) (l0 : List ByteArray) (r1 : ByteArray) (r2 : Int) (w : World) (hr0 : Kd.C Kd.string w A0 l0.length l0) (hc0 : l0.length ≤ c0) (h : pleachref14_Row.f l0 = some (r1, r2)) :
    Calls Tryd.prog 9 #[.slice A0 l0.length c0] w fun e w' => e = .returned (.tuple #[.string r1, .int .i64 r2]) ∧ Below w.heap.size w w' := by
  obtain ⟨k, hk⟩ := pleachref14_Row.ev _ _ h
  exact pleachref14_Row_p.calls (k := k) (w := w) (h := hk) (hr0 := hr0) (hc0 := hc0)

/-! ### pleachlaw14_FramePuts: function 3 -/
def pleachlaw14_FramePuts.l0 : Nat → List ByteArray → ByteArray → Int → ByteArray → Int → Int → List ByteArray → Int → Int → Option (Bool)
  | 0, _, _, _, _, _, _, _, _, _ => none
  | k + 1, x0, x3, x4, x5, x6, x7, x26, x27, x28 => if x28 < x27 then (if 0 ≤ x28 then (if x28 < (x26.length : Int) then ((pleachref14_Put.f (rdOf ByteArray.empty x26 x28)).bind fun t243 => ((frame_Put.f (rdOf ByteArray.empty x26 x28)).bind fun bt244 => ((pleachref14_Wrong.f (rdOf ByteArray.empty x26 x28)).bind fun t246 => (if bt244.2 = t246 then ((frame_Check.f (rdOf ByteArray.empty x26 x28)).bind fun t247 => (if t247 = bt244.2 then (if bt244.2 = 0 then ((pleachref14_Put.f (rdOf ByteArray.empty x26 x28)).bind fun t248 => (if bt244.1.toList = t248.toList then (pleachlaw14_FramePuts.l0 k x0 x3 x4 x5 x6 (wrap64 (x7 + (t243.size : Int))) x26 x27 (wrap64 (x28 + 1))) else (some false))) else (if bt244.1.toList = ([] : List UInt8) then (pleachlaw14_FramePuts.l0 k x0 x3 x4 x5 x6 (wrap64 (x7 + (t243.size : Int))) x26 x27 (wrap64 (x28 + 1))) else (some false))) else (some false))) else (some false))))) else (none)) else (none)) else (if x3.toList = x5.toList then (if x4 = x6 then ((frame_Size.f x0).bind fun t240 => (if t240 = x7 then ((pleachlaw14_awake.f).bind fun t241 => (some t241)) else (some false))) else (some false)) else (some false))
def pleachlaw14_FramePuts.f (k : Nat) (l0 : List ByteArray) : Option (Bool) := (pleachlaw14_few.f l0).bind fun t234 => (if t234 = true then ((frame_Row.f l0).bind fun bt236 => ((pleachref14_Row.f l0).bind fun bt238 => (pleachlaw14_FramePuts.l0 k l0 bt236.1 bt236.2 bt238.1 bt238.2 0 l0 (l0.length : Int) 0))) else ((pleachlaw14_awake.f).bind fun t235 => (some t235)))
theorem pleachlaw14_FramePuts.mono_l : ∀ k, (∀ y0 y1 y2 y3 y4 y5 y6 y7 y8, LeO (pleachlaw14_FramePuts.l0 k y0 y1 y2 y3 y4 y5 y6 y7 y8) (pleachlaw14_FramePuts.l0 (k + 1) y0 y1 y2 y3 y4 y5 y6 y7 y8))
  | 0 => fun _ _ _ _ _ _ _ _ _ r h => by simp [pleachlaw14_FramePuts.l0] at h
  | k + 1 => by
    have ih0 := pleachlaw14_FramePuts.mono_l k
    · intro y0 y1 y2 y3 y4 y5 y6 y7 y8
      unfold pleachlaw14_FramePuts.l0
      repeat' first
      | (with_reducible exact ih0 _ _ _ _ _ _ _ _ _)
      | (with_reducible exact LeO.refl _)
      | (with_reducible exact LeO.none _)
      | (with_reducible refine LeO.ite ?_ ?_)
      | (with_reducible refine LeO.bind ?_ (fun _ => ?_))
      | exact ih0 _ _ _ _ _ _ _ _ _
      | exact LeO.none _
      | refine LeO.ite ?_ ?_
      | refine LeO.bind ?_ (fun _ => ?_)
theorem pleachlaw14_FramePuts.mono : ∀ a0 k, LeO (pleachlaw14_FramePuts.f k a0) (pleachlaw14_FramePuts.f (k + 1) a0) := by
  intro a0 k
  have ih0 := pleachlaw14_FramePuts.mono_l k
  unfold pleachlaw14_FramePuts.f
  repeat' first
      | (with_reducible exact ih0 _ _ _ _ _ _ _ _ _)
      | (with_reducible exact LeO.refl _)
      | (with_reducible exact LeO.none _)
      | (with_reducible refine LeO.ite ?_ ?_)
      | (with_reducible refine LeO.bind ?_ (fun _ => ?_))
      | exact ih0 _ _ _ _ _ _ _ _ _
      | exact LeO.none _
      | refine LeO.ite ?_ ?_
      | refine LeO.bind ?_ (fun _ => ?_)
set_option maxHeartbeats 8000000 in
set_option maxRecDepth 100000 in
theorem pleachlaw14_FramePuts.calls (k : Nat) (A0 : Option Addr) (c0 : Nat) (l0 : List ByteArray) (r : Bool) (w : World) (hr0 : Kd.C Kd.string w A0 l0.length l0) (hc0 : l0.length ≤ c0) (h : pleachlaw14_FramePuts.f k l0 = some r) (hT : M.tab 0 w) :
    Calls Tryd.prog 3 #[.slice A0 l0.length c0] w fun e w' => e = .returned (.bool r) ∧ Below w.heap.size w w' := by
  have HT := Aside0.mk hT
  clear hT
  have HR0 := Aside0.mk hr0
  have HC0 := Aside0.mk hc0
  clear hr0 hc0
  have HB := Aside0.mk (Below.refl w.heap.size w)
  have H : ((pleachlaw14_few.f l0).bind fun t234 => (if t234 = true then ((frame_Row.f l0).bind fun bt236 => ((pleachref14_Row.f l0).bind fun bt238 => (pleachlaw14_FramePuts.l0 k l0 bt236.1 bt236.2 bt238.1 bt238.2 0 l0 (l0.length : Int) 0))) else ((pleachlaw14_awake.f).bind fun t235 => (some t235)))) = some r := h
  clear h
  replace H := Option.bind_eq_some_iff.mp H
  obtain ⟨t234, A20, H⟩ := H
  replace H : (if t234 = true then ((frame_Row.f l0).bind fun bt236 => ((pleachref14_Row.f l0).bind fun bt238 => (pleachlaw14_FramePuts.l0 k l0 bt236.1 bt236.2 bt238.1 bt238.2 0 l0 (l0.length : Int) 0))) else ((pleachlaw14_awake.f).bind fun t235 => (some t235))) = some r := H
  have A2 := Aside0.mk A20
  clear A20
  by_cases c3 : t234 = true
  · subst c3
    have H1 : ((frame_Row.f l0).bind fun bt236 => ((pleachref14_Row.f l0).bind fun bt238 => (pleachlaw14_FramePuts.l0 k l0 bt236.1 bt236.2 bt238.1 bt238.2 0 l0 (l0.length : Int) 0))) = some r := by rw [if_pos rfl] at H; exact H
    clear H
    have H := H1
    clear H1
    replace H := Option.bind_eq_some_iff.mp H
    obtain ⟨⟨t236, t237⟩, A40, H⟩ := H
    replace H : ((pleachref14_Row.f l0).bind fun bt238 => (pleachlaw14_FramePuts.l0 k l0 t236 t237 bt238.1 bt238.2 0 l0 (l0.length : Int) 0)) = some r := H
    have A4 := Aside0.mk A40
    clear A40
    replace H := Option.bind_eq_some_iff.mp H
    obtain ⟨⟨t238, t239⟩, A50, H⟩ := H
    replace H : (pleachlaw14_FramePuts.l0 k l0 t236 t237 t238 t239 0 l0 (l0.length : Int) 0) = some r := H
    have A5 := Aside0.mk A50
    clear A50
    have H' := Aside0.mk H
    clear H
    go_enter Tryd.func3, Tryd.ntmps3
    go_wp2_with (first | ((with_reducible refine gate_callee (f := 6) rfl ?_); refine M.goes (some 13) Tryd.func6 #[.slice A0 l0.length c0] rfl ?_; (with_reducible refine (pleachlaw14_few.calls _ _ l0 true _ ?side1 ?side2 A2.out).mono ?_); (case side1 => repeat (first | exact HR0.out | (with_reducible refine Kd.C_alloc ?_ _) | (with_reducible refine Kd.C_drewN ?_ _) | (with_reducible refine Kd.C_drew ?_))); (case side2 => exact HC0.out); rintro e w6 ⟨rfl, hb⟩; refine ⟨_, rfl, ?_⟩; have n0_ := M.upS HB hb; clear HB; have HB := n0_; clear n0_; (try clear hb)) | ((with_reducible refine gate_callee (f := 8) rfl ?_); refine M.goes (some 18) Tryd.func8 #[.slice A0 l0.length c0] rfl ?_; (with_reducible refine (frame_Row.calls _ _ l0 t236 t237 _ ?side1 ?side2 A4.out (hT := M.tab_up HT (M.up HB))).mono ?_); (case side1 => exact M.cB HR0 HB); (case side2 => exact HC0.out); rintro e w7 ⟨rfl, hb⟩; refine ⟨_, rfl, ?_⟩; have n0_ := M.upS HB hb; clear HB; have HB := n0_; clear n0_; (try clear hb)) | ((with_reducible refine gate_callee (f := 9) rfl ?_); refine M.goes (some 23) Tryd.func9 #[.slice A0 l0.length c0] rfl ?_; (with_reducible refine (pleachref14_Row.calls _ _ l0 t238 t239 _ ?side1 ?side2 A5.out).mono ?_); (case side1 => exact M.cB HR0 HB); (case side2 => exact HC0.out); rintro e w8 ⟨rfl, hb⟩; refine ⟨_, rfl, ?_⟩; have n0_ := M.upS HB hb; clear HB; have HB := n0_; clear n0_; (try clear hb)))
    go_loopg [7, 28] k (fun kq v7 v28 w' => ∃ (x7_1 : Int) (x28_1 : Int), v7 = .int .i64 x7_1 ∧ v28 = .int .i64 x28_1 ∧ Aside0 (pleachlaw14_FramePuts.l0 kq l0 t236 t237 t238 t239 x7_1 l0 (l0.length : Int) x28_1 = some r) ∧ Aside0 (kq ≤ k) ∧ Aside0 (Below w.heap.size w w'))
    case atStart => exact ⟨(0), (0), (by first | rfl | (simp; done) | (simp [*]; done) | (simp [M.isEmpty_bne]; done)), (by first | rfl | (simp; done) | (simp [*]; done) | (simp [M.isEmpty_bne]; done)), H', ⟨Nat.le_refl _⟩, ⟨M.up HB⟩⟩
    case round =>
      clear H'
      try clear p2
      try clear c3
      try clear c6
      try clear c8
      obtain ⟨x7_1, x28_1, rfl, rfl, HA, HK1, HB⟩ := hrel
      cases gk with
      | zero => exact absurd HA.out (by simp [pleachlaw14_FramePuts.l0])
      | succ k1 =>
        have H := HA.out
        clear HA
        simp only [pleachlaw14_FramePuts.l0] at H
        by_cases c9 : x28_1 < (l0.length : Int)
        · rw [if_pos c9] at H
          have c9b0 : decide (x28_1 < (l0.length : Int)) = true := decide_eq_true c9
          clear c9
          by_cases c10 : 0 ≤ x28_1
          · rw [if_pos c10] at H
            have c10b0 : decide (0 ≤ x28_1) = true := decide_eq_true c10
            clear c10
            by_cases c11 : x28_1 < (l0.length : Int)
            · rw [if_pos c11] at H
              have c11b0 : decide (x28_1 < (l0.length : Int)) = true := decide_eq_true c11
              clear c11
              replace H := Option.bind_eq_some_iff.mp H
              obtain ⟨t243, A120, H⟩ := H
              replace H : ((frame_Put.f (rdOf ByteArray.empty l0 x28_1)).bind fun bt244 => ((pleachref14_Wrong.f (rdOf ByteArray.empty l0 x28_1)).bind fun t246 => (if bt244.2 = t246 then ((frame_Check.f (rdOf ByteArray.empty l0 x28_1)).bind fun t247 => (if t247 = bt244.2 then (if bt244.2 = 0 then ((pleachref14_Put.f (rdOf ByteArray.empty l0 x28_1)).bind fun t248 => (if bt244.1.toList = t248.toList then (pleachlaw14_FramePuts.l0 k1 l0 t236 t237 t238 t239 (wrap64 (x7_1 + (t243.size : Int))) l0 (l0.length : Int) (wrap64 (x28_1 + 1))) else (some false))) else (if bt244.1.toList = ([] : List UInt8) then (pleachlaw14_FramePuts.l0 k1 l0 t236 t237 t238 t239 (wrap64 (x7_1 + (t243.size : Int))) l0 (l0.length : Int) (wrap64 (x28_1 + 1))) else (some false))) else (some false))) else (some false)))) = some r := H
              have A12 := Aside0.mk A120
              clear A120
              replace H := Option.bind_eq_some_iff.mp H
              obtain ⟨⟨t244, t245⟩, A130, H⟩ := H
              replace H : ((pleachref14_Wrong.f (rdOf ByteArray.empty l0 x28_1)).bind fun t246 => (if t245 = t246 then ((frame_Check.f (rdOf ByteArray.empty l0 x28_1)).bind fun t247 => (if t247 = t245 then (if t245 = 0 then ((pleachref14_Put.f (rdOf ByteArray.empty l0 x28_1)).bind fun t248 => (if t244.toList = t248.toList then (pleachlaw14_FramePuts.l0 k1 l0 t236 t237 t238 t239 (wrap64 (x7_1 + (t243.size : Int))) l0 (l0.length : Int) (wrap64 (x28_1 + 1))) else (some false))) else (if t244.toList = ([] : List UInt8) then (pleachlaw14_FramePuts.l0 k1 l0 t236 t237 t238 t239 (wrap64 (x7_1 + (t243.size : Int))) l0 (l0.length : Int) (wrap64 (x28_1 + 1))) else (some false))) else (some false))) else (some false))) = some r := H
              have A13 := Aside0.mk A130
              clear A130
              replace H := Option.bind_eq_some_iff.mp H
              obtain ⟨t246, A140, H⟩ := H
              replace H : (if t245 = t246 then ((frame_Check.f (rdOf ByteArray.empty l0 x28_1)).bind fun t247 => (if t247 = t245 then (if t245 = 0 then ((pleachref14_Put.f (rdOf ByteArray.empty l0 x28_1)).bind fun t248 => (if t244.toList = t248.toList then (pleachlaw14_FramePuts.l0 k1 l0 t236 t237 t238 t239 (wrap64 (x7_1 + (t243.size : Int))) l0 (l0.length : Int) (wrap64 (x28_1 + 1))) else (some false))) else (if t244.toList = ([] : List UInt8) then (pleachlaw14_FramePuts.l0 k1 l0 t236 t237 t238 t239 (wrap64 (x7_1 + (t243.size : Int))) l0 (l0.length : Int) (wrap64 (x28_1 + 1))) else (some false))) else (some false))) else (some false)) = some r := H
              have A14 := Aside0.mk A140
              clear A140
              by_cases c15 : t245 = t246
              · rw [if_pos c15] at H
                have c15b0 : (t245 == t246) = true := beq_iff_eq.mpr c15
                have c15b1 : (t245 != t246) = false := bne_eq_false_iff_eq.mpr c15
                clear c15
                replace H := Option.bind_eq_some_iff.mp H
                obtain ⟨t247, A160, H⟩ := H
                replace H : (if t247 = t245 then (if t245 = 0 then ((pleachref14_Put.f (rdOf ByteArray.empty l0 x28_1)).bind fun t248 => (if t244.toList = t248.toList then (pleachlaw14_FramePuts.l0 k1 l0 t236 t237 t238 t239 (wrap64 (x7_1 + (t243.size : Int))) l0 (l0.length : Int) (wrap64 (x28_1 + 1))) else (some false))) else (if t244.toList = ([] : List UInt8) then (pleachlaw14_FramePuts.l0 k1 l0 t236 t237 t238 t239 (wrap64 (x7_1 + (t243.size : Int))) l0 (l0.length : Int) (wrap64 (x28_1 + 1))) else (some false))) else (some false)) = some r := H
                have A16 := Aside0.mk A160
                clear A160
                by_cases c17 : t247 = t245
                · rw [if_pos c17] at H
                  have c17b0 : (t247 == t245) = true := beq_iff_eq.mpr c17
                  have c17b1 : (t247 != t245) = false := bne_eq_false_iff_eq.mpr c17
                  clear c17
                  by_cases c18 : t245 = 0
                  · rw [if_pos c18] at H
                    have c18b0 : (t245 == 0) = true := beq_iff_eq.mpr c18
                    have c18b1 : (t245 != 0) = false := bne_eq_false_iff_eq.mpr c18
                    clear c18
                    replace H := Option.bind_eq_some_iff.mp H
                    obtain ⟨t248, A190, H⟩ := H
                    replace H : (if t244.toList = t248.toList then (pleachlaw14_FramePuts.l0 k1 l0 t236 t237 t238 t239 (wrap64 (x7_1 + (t243.size : Int))) l0 (l0.length : Int) (wrap64 (x28_1 + 1))) else (some false)) = some r := H
                    have A19 := Aside0.mk A190
                    clear A190
                    by_cases c20 : t244.toList = t248.toList
                    · rw [if_pos c20] at H
                      have c20b0 : (t244.toList == t248.toList) = true := beq_iff_eq.mpr c20
                      have c20b1 : (t244.toList != t248.toList) = false := bne_eq_false_iff_eq.mpr c20
                      clear c20
                      have H' := Aside0.mk H
                      clear H
                      have p242 : 0 ≤ (x28_1 : Int) := of_decide_eq_true (by first | (with_reducible assumption) | assumption)
                      have q242 : x28_1 < (l0.length : Int) := of_decide_eq_true (by first | (with_reducible assumption) | assumption)
                      obtain ⟨ad242, e242, hx242_0⟩ := Kd.at_string HR0.out x28_1 p242 q242
                      cases e242
                      replace hx242_0 := (HB.out.cell (World.block_lt_of_cell? w _ hx242_0)).trans hx242_0
                      replace p242 := eq_true p242
                      replace q242 := eq_true q242
                      go_wp2_with (first | ((with_reducible refine gate_callee (f := 10) rfl ?_); refine M.goes (some 34) Tryd.func10 #[.string (rdOf ByteArray.empty l0 x28_1)] rfl ?_; (with_reducible refine (pleachref14_Put.calls (rdOf ByteArray.empty l0 x28_1) t243 _ A12.out).mono ?_); rintro e w21 ⟨rfl, hb⟩; refine ⟨_, rfl, ?_⟩; have n0_ := M.upS HB hb; clear HB; have HB := n0_; clear n0_; (try clear hb)) | ((with_reducible refine gate_callee (f := 11) rfl ?_); refine M.goes (some 39) Tryd.func11 #[.string (rdOf ByteArray.empty l0 x28_1)] rfl ?_; (with_reducible refine (frame_Put.calls (rdOf ByteArray.empty l0 x28_1) t244 t245 _ A13.out (hT := M.tab_up HT (M.up HB))).mono ?_); rintro e w22 ⟨rfl, hb⟩; refine ⟨_, rfl, ?_⟩; have n0_ := M.upS HB hb; clear HB; have HB := n0_; clear n0_; (try clear hb)) | ((with_reducible refine gate_callee (f := 12) rfl ?_); refine M.goes (some 44) Tryd.func12 #[.string (rdOf ByteArray.empty l0 x28_1)] rfl ?_; (with_reducible refine (pleachref14_Wrong.calls (rdOf ByteArray.empty l0 x28_1) t246 _ A14.out).mono ?_); rintro e w' ⟨rfl, ⟨nd, rfl⟩⟩; refine ⟨_, rfl, ?_⟩) | (go_at_call 13; (with_reducible refine (frame_Check.calls (rdOf ByteArray.empty l0 x28_1) t247 _ A16.out).mono ?_); rintro e w' ⟨rfl, ⟨nd, rfl⟩⟩) | (go_at_call 10; (with_reducible refine (pleachref14_Put.calls (rdOf ByteArray.empty l0 x28_1) t248 _ A19.out).mono ?_); rintro e w23 ⟨rfl, hb⟩; have n0_ := M.upS HB hb; clear HB; have HB := n0_; clear n0_; (try clear hb); (try clear hb2); (try clear hk); (try clear hi)))
                      go_roundg k1
                      case measure => have := HK1.out; omega
                      case rel => exact ⟨(wrap64 (x7_1 + (t243.size : Int))), (wrap64 (x28_1 + 1)), (by first | rfl | (simp; done) | (simp [*]; done) | (simp [M.isEmpty_bne]; done)), (by first | rfl | (simp; done) | (simp [*]; done) | (simp [M.isEmpty_bne]; done)), H', ⟨by have := HK1.out; omega⟩, ⟨M.up HB⟩⟩
                    · rw [if_neg c20] at H
                      have c20b0 : (t244.toList == t248.toList) = false := beq_eq_false_iff_ne.mpr c20
                      have c20b1 : (t244.toList != t248.toList) = true := bne_iff_ne.mpr c20
                      obtain rfl := Option.some.inj H
                      have p242 : 0 ≤ (x28_1 : Int) := of_decide_eq_true (by first | (with_reducible assumption) | assumption)
                      have q242 : x28_1 < (l0.length : Int) := of_decide_eq_true (by first | (with_reducible assumption) | assumption)
                      obtain ⟨ad242, e242, hx242_0⟩ := Kd.at_string HR0.out x28_1 p242 q242
                      cases e242
                      replace hx242_0 := (HB.out.cell (World.block_lt_of_cell? w _ hx242_0)).trans hx242_0
                      replace p242 := eq_true p242
                      replace q242 := eq_true q242
                      go_wp2_with (first | ((with_reducible refine gate_callee (f := 10) rfl ?_); refine M.goes (some 34) Tryd.func10 #[.string (rdOf ByteArray.empty l0 x28_1)] rfl ?_; (with_reducible refine (pleachref14_Put.calls (rdOf ByteArray.empty l0 x28_1) t243 _ A12.out).mono ?_); rintro e w24 ⟨rfl, hb⟩; refine ⟨_, rfl, ?_⟩; have n0_ := M.upS HB hb; clear HB; have HB := n0_; clear n0_; (try clear hb)) | ((with_reducible refine gate_callee (f := 11) rfl ?_); refine M.goes (some 39) Tryd.func11 #[.string (rdOf ByteArray.empty l0 x28_1)] rfl ?_; (with_reducible refine (frame_Put.calls (rdOf ByteArray.empty l0 x28_1) t244 t245 _ A13.out (hT := M.tab_up HT (M.up HB))).mono ?_); rintro e w25 ⟨rfl, hb⟩; refine ⟨_, rfl, ?_⟩; have n0_ := M.upS HB hb; clear HB; have HB := n0_; clear n0_; (try clear hb)) | ((with_reducible refine gate_callee (f := 12) rfl ?_); refine M.goes (some 44) Tryd.func12 #[.string (rdOf ByteArray.empty l0 x28_1)] rfl ?_; (with_reducible refine (pleachref14_Wrong.calls (rdOf ByteArray.empty l0 x28_1) t246 _ A14.out).mono ?_); rintro e w' ⟨rfl, ⟨nd, rfl⟩⟩; refine ⟨_, rfl, ?_⟩) | (go_at_call 13; (with_reducible refine (frame_Check.calls (rdOf ByteArray.empty l0 x28_1) t247 _ A16.out).mono ?_); rintro e w' ⟨rfl, ⟨nd, rfl⟩⟩) | (go_at_call 10; (with_reducible refine (pleachref14_Put.calls (rdOf ByteArray.empty l0 x28_1) t248 _ A19.out).mono ?_); rintro e w26 ⟨rfl, hb⟩; have n0_ := M.upS HB hb; clear HB; have HB := n0_; clear n0_; (try clear hb); (try clear hb2); (try clear hk); (try clear hi)))
                      go_ret
                      exact M.fin (M.up HB)
                  · rw [if_neg c18] at H
                    have c18b0 : (t245 == 0) = false := beq_eq_false_iff_ne.mpr c18
                    have c18b1 : (t245 != 0) = true := bne_iff_ne.mpr c18
                    by_cases c27 : t244.toList = ([] : List UInt8)
                    · rw [if_pos c27] at H
                      have c27b0 : (t244.toList == ([] : List UInt8)) = true := beq_iff_eq.mpr c27
                      have c27b1 : (t244.toList != ([] : List UInt8)) = false := bne_eq_false_iff_eq.mpr c27
                      clear c27
                      have H' := Aside0.mk H
                      clear H
                      have p242 : 0 ≤ (x28_1 : Int) := of_decide_eq_true (by first | (with_reducible assumption) | assumption)
                      have q242 : x28_1 < (l0.length : Int) := of_decide_eq_true (by first | (with_reducible assumption) | assumption)
                      obtain ⟨ad242, e242, hx242_0⟩ := Kd.at_string HR0.out x28_1 p242 q242
                      cases e242
                      replace hx242_0 := (HB.out.cell (World.block_lt_of_cell? w _ hx242_0)).trans hx242_0
                      replace p242 := eq_true p242
                      replace q242 := eq_true q242
                      go_wp2_with (first | ((with_reducible refine gate_callee (f := 10) rfl ?_); refine M.goes (some 34) Tryd.func10 #[.string (rdOf ByteArray.empty l0 x28_1)] rfl ?_; (with_reducible refine (pleachref14_Put.calls (rdOf ByteArray.empty l0 x28_1) t243 _ A12.out).mono ?_); rintro e w28 ⟨rfl, hb⟩; refine ⟨_, rfl, ?_⟩; have n0_ := M.upS HB hb; clear HB; have HB := n0_; clear n0_; (try clear hb)) | ((with_reducible refine gate_callee (f := 11) rfl ?_); refine M.goes (some 39) Tryd.func11 #[.string (rdOf ByteArray.empty l0 x28_1)] rfl ?_; (with_reducible refine (frame_Put.calls (rdOf ByteArray.empty l0 x28_1) t244 t245 _ A13.out (hT := M.tab_up HT (M.up HB))).mono ?_); rintro e w29 ⟨rfl, hb⟩; refine ⟨_, rfl, ?_⟩; have n0_ := M.upS HB hb; clear HB; have HB := n0_; clear n0_; (try clear hb)) | ((with_reducible refine gate_callee (f := 12) rfl ?_); refine M.goes (some 44) Tryd.func12 #[.string (rdOf ByteArray.empty l0 x28_1)] rfl ?_; (with_reducible refine (pleachref14_Wrong.calls (rdOf ByteArray.empty l0 x28_1) t246 _ A14.out).mono ?_); rintro e w' ⟨rfl, ⟨nd, rfl⟩⟩; refine ⟨_, rfl, ?_⟩) | (go_at_call 13; (with_reducible refine (frame_Check.calls (rdOf ByteArray.empty l0 x28_1) t247 _ A16.out).mono ?_); rintro e w' ⟨rfl, ⟨nd, rfl⟩⟩))
                      go_roundg k1
                      case measure => have := HK1.out; omega
                      case rel => exact ⟨(wrap64 (x7_1 + (t243.size : Int))), (wrap64 (x28_1 + 1)), (by first | rfl | (simp; done) | (simp [*]; done) | (simp [M.isEmpty_bne]; done)), (by first | rfl | (simp; done) | (simp [*]; done) | (simp [M.isEmpty_bne]; done)), H', ⟨by have := HK1.out; omega⟩, ⟨M.up HB⟩⟩
                    · rw [if_neg c27] at H
                      have c27b0 : (t244.toList == ([] : List UInt8)) = false := beq_eq_false_iff_ne.mpr c27
                      have c27b1 : (t244.toList != ([] : List UInt8)) = true := bne_iff_ne.mpr c27
                      obtain rfl := Option.some.inj H
                      have p242 : 0 ≤ (x28_1 : Int) := of_decide_eq_true (by first | (with_reducible assumption) | assumption)
                      have q242 : x28_1 < (l0.length : Int) := of_decide_eq_true (by first | (with_reducible assumption) | assumption)
                      obtain ⟨ad242, e242, hx242_0⟩ := Kd.at_string HR0.out x28_1 p242 q242
                      cases e242
                      replace hx242_0 := (HB.out.cell (World.block_lt_of_cell? w _ hx242_0)).trans hx242_0
                      replace p242 := eq_true p242
                      replace q242 := eq_true q242
                      go_wp2_with (first | ((with_reducible refine gate_callee (f := 10) rfl ?_); refine M.goes (some 34) Tryd.func10 #[.string (rdOf ByteArray.empty l0 x28_1)] rfl ?_; (with_reducible refine (pleachref14_Put.calls (rdOf ByteArray.empty l0 x28_1) t243 _ A12.out).mono ?_); rintro e w30 ⟨rfl, hb⟩; refine ⟨_, rfl, ?_⟩; have n0_ := M.upS HB hb; clear HB; have HB := n0_; clear n0_; (try clear hb)) | ((with_reducible refine gate_callee (f := 11) rfl ?_); refine M.goes (some 39) Tryd.func11 #[.string (rdOf ByteArray.empty l0 x28_1)] rfl ?_; (with_reducible refine (frame_Put.calls (rdOf ByteArray.empty l0 x28_1) t244 t245 _ A13.out (hT := M.tab_up HT (M.up HB))).mono ?_); rintro e w31 ⟨rfl, hb⟩; refine ⟨_, rfl, ?_⟩; have n0_ := M.upS HB hb; clear HB; have HB := n0_; clear n0_; (try clear hb)) | ((with_reducible refine gate_callee (f := 12) rfl ?_); refine M.goes (some 44) Tryd.func12 #[.string (rdOf ByteArray.empty l0 x28_1)] rfl ?_; (with_reducible refine (pleachref14_Wrong.calls (rdOf ByteArray.empty l0 x28_1) t246 _ A14.out).mono ?_); rintro e w' ⟨rfl, ⟨nd, rfl⟩⟩; refine ⟨_, rfl, ?_⟩) | (go_at_call 13; (with_reducible refine (frame_Check.calls (rdOf ByteArray.empty l0 x28_1) t247 _ A16.out).mono ?_); rintro e w' ⟨rfl, ⟨nd, rfl⟩⟩))
                      go_ret
                      exact M.fin (M.up HB)
                · rw [if_neg c17] at H
                  have c17b0 : (t247 == t245) = false := beq_eq_false_iff_ne.mpr c17
                  have c17b1 : (t247 != t245) = true := bne_iff_ne.mpr c17
                  obtain rfl := Option.some.inj H
                  have p242 : 0 ≤ (x28_1 : Int) := of_decide_eq_true (by first | (with_reducible assumption) | assumption)
                  have q242 : x28_1 < (l0.length : Int) := of_decide_eq_true (by first | (with_reducible assumption) | assumption)
                  obtain ⟨ad242, e242, hx242_0⟩ := Kd.at_string HR0.out x28_1 p242 q242
                  cases e242
                  replace hx242_0 := (HB.out.cell (World.block_lt_of_cell? w _ hx242_0)).trans hx242_0
                  replace p242 := eq_true p242
                  replace q242 := eq_true q242
                  go_wp2_with (first | ((with_reducible refine gate_callee (f := 10) rfl ?_); refine M.goes (some 34) Tryd.func10 #[.string (rdOf ByteArray.empty l0 x28_1)] rfl ?_; (with_reducible refine (pleachref14_Put.calls (rdOf ByteArray.empty l0 x28_1) t243 _ A12.out).mono ?_); rintro e w32 ⟨rfl, hb⟩; refine ⟨_, rfl, ?_⟩; have n0_ := M.upS HB hb; clear HB; have HB := n0_; clear n0_; (try clear hb)) | ((with_reducible refine gate_callee (f := 11) rfl ?_); refine M.goes (some 39) Tryd.func11 #[.string (rdOf ByteArray.empty l0 x28_1)] rfl ?_; (with_reducible refine (frame_Put.calls (rdOf ByteArray.empty l0 x28_1) t244 t245 _ A13.out (hT := M.tab_up HT (M.up HB))).mono ?_); rintro e w33 ⟨rfl, hb⟩; refine ⟨_, rfl, ?_⟩; have n0_ := M.upS HB hb; clear HB; have HB := n0_; clear n0_; (try clear hb)) | ((with_reducible refine gate_callee (f := 12) rfl ?_); refine M.goes (some 44) Tryd.func12 #[.string (rdOf ByteArray.empty l0 x28_1)] rfl ?_; (with_reducible refine (pleachref14_Wrong.calls (rdOf ByteArray.empty l0 x28_1) t246 _ A14.out).mono ?_); rintro e w' ⟨rfl, ⟨nd, rfl⟩⟩; refine ⟨_, rfl, ?_⟩) | (go_at_call 13; (with_reducible refine (frame_Check.calls (rdOf ByteArray.empty l0 x28_1) t247 _ A16.out).mono ?_); rintro e w' ⟨rfl, ⟨nd, rfl⟩⟩))
                  go_ret
                  exact M.fin (M.up HB)
              · rw [if_neg c15] at H
                have c15b0 : (t245 == t246) = false := beq_eq_false_iff_ne.mpr c15
                have c15b1 : (t245 != t246) = true := bne_iff_ne.mpr c15
                obtain rfl := Option.some.inj H
                have p242 : 0 ≤ (x28_1 : Int) := of_decide_eq_true (by first | (with_reducible assumption) | assumption)
                have q242 : x28_1 < (l0.length : Int) := of_decide_eq_true (by first | (with_reducible assumption) | assumption)
                obtain ⟨ad242, e242, hx242_0⟩ := Kd.at_string HR0.out x28_1 p242 q242
                cases e242
                replace hx242_0 := (HB.out.cell (World.block_lt_of_cell? w _ hx242_0)).trans hx242_0
                replace p242 := eq_true p242
                replace q242 := eq_true q242
                go_wp2_with (first | ((with_reducible refine gate_callee (f := 10) rfl ?_); refine M.goes (some 34) Tryd.func10 #[.string (rdOf ByteArray.empty l0 x28_1)] rfl ?_; (with_reducible refine (pleachref14_Put.calls (rdOf ByteArray.empty l0 x28_1) t243 _ A12.out).mono ?_); rintro e w34 ⟨rfl, hb⟩; refine ⟨_, rfl, ?_⟩; have n0_ := M.upS HB hb; clear HB; have HB := n0_; clear n0_; (try clear hb)) | ((with_reducible refine gate_callee (f := 11) rfl ?_); refine M.goes (some 39) Tryd.func11 #[.string (rdOf ByteArray.empty l0 x28_1)] rfl ?_; (with_reducible refine (frame_Put.calls (rdOf ByteArray.empty l0 x28_1) t244 t245 _ A13.out (hT := M.tab_up HT (M.up HB))).mono ?_); rintro e w35 ⟨rfl, hb⟩; refine ⟨_, rfl, ?_⟩; have n0_ := M.upS HB hb; clear HB; have HB := n0_; clear n0_; (try clear hb)) | ((with_reducible refine gate_callee (f := 12) rfl ?_); refine M.goes (some 44) Tryd.func12 #[.string (rdOf ByteArray.empty l0 x28_1)] rfl ?_; (with_reducible refine (pleachref14_Wrong.calls (rdOf ByteArray.empty l0 x28_1) t246 _ A14.out).mono ?_); rintro e w' ⟨rfl, ⟨nd, rfl⟩⟩; refine ⟨_, rfl, ?_⟩))
                go_ret
                exact M.fin (M.up HB)
            · rw [if_neg c11] at H
              exact absurd H (by simp)
          · rw [if_neg c10] at H
            exact absurd H (by simp)
        · rw [if_neg c9] at H
          have c9b0 : decide (x28_1 < (l0.length : Int)) = false := decide_eq_false c9
          clear c9
          by_cases c36 : t236.toList = t238.toList
          · rw [if_pos c36] at H
            have c36b0 : (t236.toList == t238.toList) = true := beq_iff_eq.mpr c36
            have c36b1 : (t236.toList != t238.toList) = false := bne_eq_false_iff_eq.mpr c36
            clear c36
            by_cases c37 : t237 = t239
            · rw [if_pos c37] at H
              have c37b0 : (t237 == t239) = true := beq_iff_eq.mpr c37
              have c37b1 : (t237 != t239) = false := bne_eq_false_iff_eq.mpr c37
              clear c37
              replace H := Option.bind_eq_some_iff.mp H
              obtain ⟨t240, A380, H⟩ := H
              replace H : (if t240 = x7_1 then ((pleachlaw14_awake.f).bind fun t241 => (some t241)) else (some false)) = some r := H
              have A38 := Aside0.mk A380
              clear A380
              by_cases c39 : t240 = x7_1
              · rw [if_pos c39] at H
                have c39b0 : (t240 == x7_1) = true := beq_iff_eq.mpr c39
                have c39b1 : (t240 != x7_1) = false := bne_eq_false_iff_eq.mpr c39
                clear c39
                replace H := Option.bind_eq_some_iff.mp H
                obtain ⟨t241, A400, H⟩ := H
                replace H : (some t241) = some r := H
                have A40 := Aside0.mk A400
                clear A400
                obtain rfl := Option.some.inj H
                go_wp2_with (first | (go_at_call 14; (with_reducible refine (frame_Size.calls _ _ l0 t240 _ ?side1 ?side2 A38.out).mono ?_); (case side1 => exact M.cB HR0 HB); (case side2 => exact HC0.out); rintro e w41 ⟨rfl, hb⟩; have n0_ := M.upS HB hb; clear HB; have HB := n0_; clear n0_; (try clear hb); (try clear hb2); (try clear hk); (try clear hi)) | (go_at_call 7; (with_reducible refine (pleachlaw14_awake.calls  t241 _ A40.out (hT := M.tab_up HT (M.up HB))).mono ?_); rintro e w42 ⟨rfl, hb⟩; have n0_ := M.upS HB hb; clear HB; have HB := n0_; clear n0_; (try clear hb); (try clear hb2); (try clear hk); (try clear hi)))
                go_ret
                exact M.fin (M.up HB)
              · rw [if_neg c39] at H
                have c39b0 : (t240 == x7_1) = false := beq_eq_false_iff_ne.mpr c39
                have c39b1 : (t240 != x7_1) = true := bne_iff_ne.mpr c39
                obtain rfl := Option.some.inj H
                go_wp2_with (first | (go_at_call 14; (with_reducible refine (frame_Size.calls _ _ l0 t240 _ ?side1 ?side2 A38.out).mono ?_); (case side1 => exact M.cB HR0 HB); (case side2 => exact HC0.out); rintro e w43 ⟨rfl, hb⟩; have n0_ := M.upS HB hb; clear HB; have HB := n0_; clear n0_; (try clear hb); (try clear hb2); (try clear hk); (try clear hi)))
                go_ret
                exact M.fin (M.up HB)
            · rw [if_neg c37] at H
              have c37b0 : (t237 == t239) = false := beq_eq_false_iff_ne.mpr c37
              have c37b1 : (t237 != t239) = true := bne_iff_ne.mpr c37
              obtain rfl := Option.some.inj H
              go_wp2
              go_ret
              exact M.fin (M.up HB)
          · rw [if_neg c36] at H
            have c36b0 : (t236.toList == t238.toList) = false := beq_eq_false_iff_ne.mpr c36
            have c36b1 : (t236.toList != t238.toList) = true := bne_iff_ne.mpr c36
            obtain rfl := Option.some.inj H
            go_wp2
            go_ret
            exact M.fin (M.up HB)
  · replace c3 := Bool.eq_false_iff.mpr c3
    subst c3
    have H1 : ((pleachlaw14_awake.f).bind fun t235 => (some t235)) = some r := by rw [if_neg (show ¬ (false = true) by decide)] at H; exact H
    clear H
    have H := H1
    clear H1
    replace H := Option.bind_eq_some_iff.mp H
    obtain ⟨t235, A440, H⟩ := H
    replace H : (some t235) = some r := H
    have A44 := Aside0.mk A440
    clear A440
    obtain rfl := Option.some.inj H
    go_enter Tryd.func3, Tryd.ntmps3
    go_wp2_with (first | ((with_reducible refine gate_callee (f := 6) rfl ?_); refine M.goes (some 13) Tryd.func6 #[.slice A0 l0.length c0] rfl ?_; (with_reducible refine (pleachlaw14_few.calls _ _ l0 false _ ?side1 ?side2 A2.out).mono ?_); (case side1 => repeat (first | exact HR0.out | (with_reducible refine Kd.C_alloc ?_ _) | (with_reducible refine Kd.C_drewN ?_ _) | (with_reducible refine Kd.C_drew ?_))); (case side2 => exact HC0.out); rintro e w45 ⟨rfl, hb⟩; refine ⟨_, rfl, ?_⟩; have n0_ := M.upS HB hb; clear HB; have HB := n0_; clear n0_; (try clear hb)) | ((with_reducible refine gate_callee (f := 7) rfl ?_); refine M.goes (some 15) Tryd.func7 #[] rfl ?_; (with_reducible refine (pleachlaw14_awake.calls  t235 _ A44.out (hT := M.tab_up HT (M.up HB))).mono ?_); rintro e w46 ⟨rfl, hb⟩; refine ⟨_, rfl, ?_⟩; have n0_ := M.upS HB hb; clear HB; have HB := n0_; clear n0_; (try clear hb)))
    go_ret
    exact M.fin (M.up HB)

/-- THE ONE PURE STATEMENT of pleachlaw14_FramePuts: this session's form. -/
def pleachlaw14_FramePuts.Pure : Prop := ∀ (l0 : List ByteArray), ((∀ y ∈ l0, y.size ≤ 9223372036854775807) ∧ l0.length ≤ 9223372036854775807) → ∃ k, pleachlaw14_FramePuts.f k l0 = some true

end Go.Proofs.YtacjpkfpniolmaaDoor.EFramePuts
