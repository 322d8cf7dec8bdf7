-- Written by this session's own program (wip/tools/ext.py) for this claim; Lean checks it.
import Derived.Test.YtccekjebfafgcaaDoorEShelfApartx0
import Derived.Test.YtccekjebfafgcaaDoorEShelfApartx1
import Derived.Test.YtccekjebfafgcaaDoorEShelfApartx2
import Derived.Test.YtccekjebfafgcaaDoorEShelfApartx5
namespace Go.Proofs.YtccekjebfafgcaaDoor.EShelfApart
open Go.RowKit Go.Proofs.YtccekjebfafgcaaDoorW.PrintWords Go.Proofs.YtccekjebfafgcaaDoorW.PrintLast Go.Proofs.YtccekjebfafgcaaDoorW.PrintMore
attribute [local go_sem] M.run_leq M.run_gtr M.run_geq max2_int min2_int max_two min_two max_three min_three max_four min_four   -- for this text's walks alone
set_option linter.unusedVariables false
set_option linter.unusedSimpArgs false

/-! ### pleachlaw16_awake: function 8 -/
def pleachlaw16_awake.f : Option Bool := some true
def pleachlaw16_awake.a : ByteArray := ⟨#[97]⟩
theorem pleachlaw16_awake.ne : pleachlaw16_awake.a ≠ ByteArray.empty := by decide +kernel
theorem pleachlaw16_awake.put1 : M.SS.none_.put pleachlaw16_awake.a = (M.shaSum pleachlaw16_awake.a, 0, ⟨[pleachlaw16_awake.a], ByteArray.empty, ByteArray.empty⟩) := by
  unfold M.SS.put
  rw [if_neg pleachlaw16_awake.ne, if_neg (by decide)]
  rfl
theorem pleachlaw16_awake.put2 : (⟨[pleachlaw16_awake.a], ByteArray.empty, ByteArray.empty⟩ : M.SS).put pleachlaw16_awake.a = (M.shaSum pleachlaw16_awake.a, 0, ⟨[pleachlaw16_awake.a], ByteArray.empty, ByteArray.empty⟩) := by
  unfold M.SS.put
  rw [if_neg pleachlaw16_awake.ne, if_neg (by decide)]
  have h : M.idx (([pleachlaw16_awake.a] : List ByteArray).map M.shaSum) (M.shaSum pleachlaw16_awake.a).data.toList = some 0 := by
    unfold M.idx
    rw [List.map_cons, List.findIdx?_cons, decide_eq_true rfl]
    rfl
  simp only [h]
  exact if_pos rfl
theorem pleachlaw16_awake.p1 (base g : Nat) (F : Nat → Prop) (s : ByteArray) (hs : M.shaSum ⟨#[97]⟩ = s) (w : World) (hS : M.Sh Tryd.prog base w g F M.SS.none_) (hT : M.stab w) :
    Calls Tryd.prog 10 #[.pointer (some ⟨g, 0, none⟩), .string ⟨#[97]⟩] w fun e w' => e = .returned (.tuple #[.string s, .int .i64 0]) ∧ M.ShTo Tryd.prog base w g F ⟨[⟨#[97]⟩], ByteArray.empty, ByteArray.empty⟩ w' := by
  have h := shelf_Shelf_Put.any base g F M.SS.none_ ⟨#[97]⟩ w hS hT (by decide) (by decide)
  rw [show M.SS.none_.put ⟨#[97]⟩ = _ from pleachlaw16_awake.put1] at h
  rw [← hs]
  exact h
theorem pleachlaw16_awake.p2 (base g : Nat) (F : Nat → Prop) (s : ByteArray) (hs : M.shaSum ⟨#[97]⟩ = s) (w : World) (hS : M.Sh Tryd.prog base w g F ⟨[⟨#[97]⟩], ByteArray.empty, ByteArray.empty⟩) (hT : M.stab w) :
    Calls Tryd.prog 10 #[.pointer (some ⟨g, 0, none⟩), .string ⟨#[97]⟩] w fun e w' => e = .returned (.tuple #[.string s, .int .i64 0]) ∧ M.ShTo Tryd.prog base w g F ⟨[⟨#[97]⟩], ByteArray.empty, ByteArray.empty⟩ w' := by
  have h := shelf_Shelf_Put.any base g F ⟨[⟨#[97]⟩], ByteArray.empty, ByteArray.empty⟩ ⟨#[97]⟩ w hS hT (by decide) (by decide)
  rw [show (⟨[⟨#[97]⟩], ByteArray.empty, ByteArray.empty⟩ : M.SS).put ⟨#[97]⟩ = _ from pleachlaw16_awake.put2] at h
  rw [← hs]
  exact h
set_option maxHeartbeats 8000000 in
set_option maxRecDepth 100000 in
theorem pleachlaw16_awake.walk (w : World) (hT : M.stab w) : Calls Tryd.prog 8 #[] w fun e w' => e = .returned (.bool true) ∧ Below w.heap.size w w' := by
  have HT := Aside0.mk hT
  obtain ⟨s, hs⟩ : ∃ s, M.shaSum ⟨#[97]⟩ = s := ⟨_, rfl⟩
  have HSum := Aside0.mk (show pleachref03_Sum.f ⟨#[97]⟩ = some s by rw [← hs]; exact pleachref03_Sum.eq_ _ (by decide))
  have HQ := Aside0.mk hs
  have hlt := Aside0.mk (M.stab_lt hT)
  have H1s : (s.toList == s.toList) = true := by simp
  clear hT hs
  go_enter Tryd.func8, Tryd.ntmps8
  go_wp2_with (first | (go_at_call 9; (with_reducible refine (shelf_New.any _).mono ?_); rintro e w1 ⟨g, F, rfl, hs1, hb1⟩; have HS1 := Aside0.mk hs1; have HB1 := Aside0.mk hb1; have HT1 := Aside0.mk (M.stab_below HT.out hb1 hlt.out); clear hs1 hb1) | (go_at_call 10; (with_reducible refine (pleachlaw16_awake.p1 w.heap.size g F s HQ.out _ HS1.out HT1.out).mono ?_); rintro e w2 ⟨rfl, F2, hs2, hf2, hk2, hb2⟩; have HS2 := Aside0.mk hs2; have HB2 := Aside0.mk (HB1.out.trans hb2); have HT2 := Aside0.mk (M.stab_below HT.out HB2.out hlt.out); clear HS1 hs2 hf2 hk2 hb2) | (go_at_call 10; (with_reducible refine (pleachlaw16_awake.p2 w.heap.size g F2 s HQ.out _ HS2.out HT2.out).mono ?_); rintro e w3 ⟨rfl, F3, hs3, hf3, hk3, hb3⟩; have HS3 := Aside0.mk hs3; have HB3 := Aside0.mk (HB2.out.trans hb3); clear HS2 hs3 hf3 hk3 hb3) | (go_at_call 22; (with_reducible refine (shelf_Shelf_Len.any w.heap.size g F3 _ _ HS3.out).mono ?_); rintro e w4 ⟨rfl, rfl⟩) | (go_at_call 27; (with_reducible refine (pleachref03_Sum.calls ⟨#[97]⟩ s _ HSum.out).mono ?_); rintro e w5 ⟨rfl, hb5⟩; have HB5 := Aside0.mk (below_step HB3.out hb5); clear hb5))
  go_ret
  exact ⟨rfl, HB5.out⟩
theorem pleachlaw16_awake.calls (r : Bool) (w : World) (hT : M.stab w) (h : pleachlaw16_awake.f = some r) : Calls Tryd.prog 8 #[] w fun e w' => e = .returned (.bool r) ∧ Below w.heap.size w w' := by
  obtain rfl := Option.some.inj h
  exact pleachlaw16_awake.walk w hT

/-! ### pleachlaw16_few_p: function 14 -/
def pleachlaw16_few_p.l0 : Nat → List (S38) → Int → Int → Option (Bool)
  | 0, _, _, _ => none
  | k + 1, x0, x3, x4 => if x4 < (x0.length : Int) then (if x4 ≤ 40 then (if 0 ≤ x4 then (pleachlaw16_few_p.l0 k x0 (wrap64 (x3 + (mn (((rd_T38 x0 x4).f2).size : Int) 10000))) (wrap64 (x4 + 1))) else (none)) else (if (x0.length : Int) ≤ 40 then (some (decide (x3 ≤ 4000))) else (some false))) else (if (x0.length : Int) ≤ 40 then (some (decide (x3 ≤ 4000))) else (some false))
def pleachlaw16_few_p.f (k : Nat) (l0 : List (S38)) : Option (Bool) := pleachlaw16_few_p.l0 k l0 0 0
theorem pleachlaw16_few_p.mono_l : ∀ k, (∀ y0 y1 y2, LeO (pleachlaw16_few_p.l0 k y0 y1 y2) (pleachlaw16_few_p.l0 (k + 1) y0 y1 y2))
  | 0 => fun _ _ _ r h => by simp [pleachlaw16_few_p.l0] at h
  | k + 1 => by
    have ih0 := pleachlaw16_few_p.mono_l k
    · intro y0 y1 y2
      unfold pleachlaw16_few_p.l0
      repeat' first
      | (with_reducible exact ih0 _ _ _)
      | (with_reducible exact LeO.refl _)
      | (with_reducible exact LeO.none _)
      | (with_reducible refine LeO.ite ?_ ?_)
      | (with_reducible refine LeO.bind ?_ (fun _ => ?_))
      | exact ih0 _ _ _
      | exact LeO.none _
      | refine LeO.ite ?_ ?_
      | refine LeO.bind ?_ (fun _ => ?_)
theorem pleachlaw16_few_p.mono : ∀ a0 k, LeO (pleachlaw16_few_p.f k a0) (pleachlaw16_few_p.f (k + 1) a0) := by
  intro a0 k
  have ih0 := pleachlaw16_few_p.mono_l k
  unfold pleachlaw16_few_p.f
  repeat' first
      | (with_reducible exact ih0 _ _ _)
      | (with_reducible exact LeO.refl _)
      | (with_reducible exact LeO.none _)
      | (with_reducible refine LeO.ite ?_ ?_)
      | (with_reducible refine LeO.bind ?_ (fun _ => ?_))
      | exact ih0 _ _ _
      | exact LeO.none _
      | refine LeO.ite ?_ ?_
      | refine LeO.bind ?_ (fun _ => ?_)
set_option maxHeartbeats 8000000 in
set_option maxRecDepth 100000 in
theorem pleachlaw16_few_p.calls (k : Nat) (A0 : Option Addr) (c0 : Nat) (l0 : List (S38)) (r : Bool) (w : World) (hr0 : Kd.C k38 w A0 l0.length l0) (hc0 : l0.length ≤ c0) (h : pleachlaw16_few_p.f k l0 = some r) :
    Calls Tryd.prog 14 #[.slice A0 l0.length c0] w fun e w' => e = .returned (.bool r) ∧ Below w.heap.size w w' := by
  have HR0 := Aside0.mk hr0
  have HC0 := Aside0.mk hc0
  clear hr0 hc0
  have HB := Aside0.mk (Below.refl w.heap.size w)
  have H : (pleachlaw16_few_p.l0 k l0 0 0) = some r := h
  clear h
  have H' := Aside0.mk H
  clear H
  go_enter Tryd.func14, Tryd.ntmps14
  go_wp2
  go_loopg [3, 4] k (fun kq v3 v4 w' => ∃ (x3_1 : Int) (x4_1 : Int), v3 = .int .i64 x3_1 ∧ v4 = .int .i64 x4_1 ∧ Aside0 (pleachlaw16_few_p.l0 kq l0 x3_1 x4_1 = some r) ∧ Aside0 (kq ≤ k) ∧ Aside0 (Below w.heap.size w w'))
  case atStart => exact ⟨(0), (0), (by first | rfl | (simp; done) | (simp [*]; done) | (simp [M.isEmpty_bne]; done)), (by first | rfl | (simp; done) | (simp [*]; done) | (simp [M.isEmpty_bne]; done)), H', ⟨Nat.le_refl _⟩, ⟨M.up HB⟩⟩
  case round =>
    clear H'
    try clear c1
    obtain ⟨x3_1, x4_1, rfl, rfl, HA, HK1, HB⟩ := hrel
    cases gk with
    | zero => exact absurd HA.out (by simp [pleachlaw16_few_p.l0])
    | succ k1 =>
      have H := HA.out
      clear HA
      simp only [pleachlaw16_few_p.l0] at H
      by_cases c2 : x4_1 < (l0.length : Int)
      · rw [if_pos c2] at H
        have c2b0 : decide (x4_1 < (l0.length : Int)) = true := decide_eq_true c2
        clear c2
        by_cases c3 : x4_1 ≤ 40
        · rw [if_pos c3] at H
          have c3b0 : decide (x4_1 ≤ 40) = true := decide_eq_true c3
          clear c3
          by_cases c4 : 0 ≤ x4_1
          · rw [if_pos c4] at H
            have c4b0 : decide (0 ≤ x4_1) = true := decide_eq_true c4
            clear c4
            obtain ⟨ji5, hji5⟩ : ∃ j_ : Int, (mn (((rd_T38 l0 x4_1).f2).size : Int) 10000) = j_ := ⟨_, rfl⟩
            replace H : (pleachlaw16_few_p.l0 k1 l0 (wrap64 (x3_1 + (ji5))) (wrap64 (x4_1 + 1))) = some r := by first | (rw [hji5] at H; exact H) | (simp only [hji5] at H ⊢; exact H)
            have hji5_ : (if 10000 < (((rd_T38 l0 x4_1).f2).size : Int) then 10000 else (((rd_T38 l0 x4_1).f2).size : Int)) = ji5 := hji5
            have H' := Aside0.mk H
            clear H
            have p169 : 0 ≤ (x4_1 : Int) := of_decide_eq_true (by first | (with_reducible assumption) | assumption)
            have q169 : x4_1 < (l0.length : Int) := of_decide_eq_true (by first | (with_reducible assumption) | assumption)
            obtain ⟨ad169, e169, hx169_0, hx169_1, hx169_2⟩ := at_T38 HR0.out x4_1 p169 q169
            cases e169
            replace hx169_0 := (HB.out.cell (World.block_lt_of_cell? w _ hx169_0)).trans hx169_0
            replace hx169_1 := (HB.out.cell (World.block_lt_of_cell? w _ hx169_1)).trans hx169_1
            replace hx169_2 := (HB.out.cell (World.block_lt_of_cell? w _ hx169_2)).trans hx169_2
            replace p169 := eq_true p169
            replace q169 := eq_true q169
            go_wp2
            go_roundg k1
            case measure => have := HK1.out; omega
            case rel => exact ⟨(wrap64 (x3_1 + (ji5))), (wrap64 (x4_1 + 1)), (by first | rfl | (simp; done) | (simp only [← hji5] <;> (first | rfl | simp)) | (simp [*]; done)), (by first | rfl | (simp; done) | (simp [*]; done) | (simp [M.isEmpty_bne]; done)), H', ⟨by have := HK1.out; omega⟩, ⟨M.up HB⟩⟩
          · rw [if_neg c4] at H
            exact absurd H (by simp)
        · rw [if_neg c3] at H
          have c3b0 : decide (x4_1 ≤ 40) = false := decide_eq_false c3
          clear c3
          by_cases c6 : (l0.length : Int) ≤ 40
          · rw [if_pos c6] at H
            have c6b0 : decide ((l0.length : Int) ≤ 40) = true := decide_eq_true c6
            have c6b1 : decide (l0.length ≤ 40) = true := decide_eq_true (by omega)
            clear c6
            obtain rfl := Option.some.inj H
            go_wp2
            go_ret
            exact M.fin (M.up HB)
          · rw [if_neg c6] at H
            have c6b0 : decide ((l0.length : Int) ≤ 40) = false := decide_eq_false c6
            have c6b1 : decide (l0.length ≤ 40) = false := decide_eq_false (by omega)
            clear c6
            obtain rfl := Option.some.inj H
            go_wp2
            go_ret
            exact M.fin (M.up HB)
      · rw [if_neg c2] at H
        have c2b0 : decide (x4_1 < (l0.length : Int)) = false := decide_eq_false c2
        clear c2
        by_cases c7 : (l0.length : Int) ≤ 40
        · rw [if_pos c7] at H
          have c7b0 : decide ((l0.length : Int) ≤ 40) = true := decide_eq_true c7
          have c7b1 : decide (l0.length ≤ 40) = true := decide_eq_true (by omega)
          clear c7
          obtain rfl := Option.some.inj H
          go_wp2
          go_ret
          exact M.fin (M.up HB)
        · rw [if_neg c7] at H
          have c7b0 : decide ((l0.length : Int) ≤ 40) = false := decide_eq_false c7
          have c7b1 : decide (l0.length ≤ 40) = false := decide_eq_false (by omega)
          clear c7
          obtain rfl := Option.some.inj H
          go_wp2
          go_ret
          exact M.fin (M.up HB)

-- this session's own plain form
def pleachlaw16_few.sum_ : List S38 → Nat
  | [] => 0
  | x :: l => min x.f2.size 10000 + pleachlaw16_few.sum_ l
def pleachlaw16_few.f (l : List S38) : Option Bool := some (decide (l.length ≤ 40) && decide (pleachlaw16_few.sum_ (l.take 41) ≤ 4000))
theorem pleachlaw16_few.sum_app (a b : List S38) : pleachlaw16_few.sum_ (a ++ b) = pleachlaw16_few.sum_ a + pleachlaw16_few.sum_ b := by
  induction a with
  | nil => simp [pleachlaw16_few.sum_]
  | cons x a ih => rw [List.cons_append, pleachlaw16_few.sum_, pleachlaw16_few.sum_, ih, Nat.add_assoc]
theorem pleachlaw16_few.sum_le (l : List S38) : pleachlaw16_few.sum_ l ≤ 10000 * l.length := by
  induction l with
  | nil => simp [pleachlaw16_few.sum_]
  | cons x l ih => rw [pleachlaw16_few.sum_, List.length_cons]; omega
theorem pleachlaw16_few.loop (l : List S38) (d : Nat) : ∀ i : Nat, i + d = 41 →
    pleachlaw16_few_p.l0 (d + 1) l ((pleachlaw16_few.sum_ (l.take i) : Nat) : Int) (i : Int) = some (decide (l.length ≤ 40) && decide (pleachlaw16_few.sum_ (l.take 41) ≤ 4000)) := by
  have fin : ∀ i, l.take i = l.take 41 → (if (l.length : Int) ≤ 40 then some (decide (((pleachlaw16_few.sum_ (l.take i) : Nat) : Int) ≤ 4000)) else some false) = some (decide (l.length ≤ 40) && decide (pleachlaw16_few.sum_ (l.take 41) ≤ 4000)) := by
    intro i hi
    rw [hi]
    by_cases h : l.length ≤ 40
    · rw [if_pos (by omega), decide_eq_true h, Bool.true_and]
      congr 1
      apply decide_eq_decide.2; omega
    · rw [if_neg (by omega), decide_eq_false h, Bool.false_and]
  induction d with
  | zero =>
    intro i hi
    obtain rfl : i = 41 := by omega
    rw [pleachlaw16_few_p.l0]
    by_cases h : ((41 : Nat) : Int) < (l.length : Int)
    · rw [if_pos h, if_neg (by omega)]; exact fin 41 rfl
    · rw [if_neg h]; exact fin 41 rfl
  | succ d ih =>
    intro i hi
    rw [pleachlaw16_few_p.l0]
    by_cases h : (i : Int) < (l.length : Int)
    · have hlt : i < l.length := by omega
      have hrd : rd_T38 l (i : Int) = l[i] := by simp [rd_T38, List.getD, hlt]
      have hsum : pleachlaw16_few.sum_ (l.take (i + 1)) = pleachlaw16_few.sum_ (l.take i) + min l[i].f2.size 10000 := by
        rw [List.take_succ_eq_append_getElem hlt, pleachlaw16_few.sum_app]; rfl
      have hle := pleachlaw16_few.sum_le (l.take i)
      have hlen : (l.take i).length ≤ i := List.length_take_le _ _
      have hi40 : i ≤ 40 := by omega
      have hn := ih (i + 1) (by omega)
      rw [if_pos h, if_pos (by omega), if_pos (by omega), hrd]
      have e1 : wrap64 (((pleachlaw16_few.sum_ (l.take i) : Nat) : Int) + mn (l[i].f2.size : Int) 10000) = ((pleachlaw16_few.sum_ (l.take (i + 1)) : Nat) : Int) := by
        have : mn (l[i].f2.size : Int) 10000 = ((min l[i].f2.size 10000 : Nat) : Int) := by
          rcases Nat.le_total l[i].f2.size 10000 with z | z
          · rw [M.mn_le (by omega)]; omega
          · rw [M.mn_ge (by omega)]; omega
        rw [this, hsum, M.wrap64_id (by omega) (by omega)]; omega
      rw [e1, M.wrap64_id (i := (i : Int) + 1) (by omega) (by omega)]
      exact hn
    · rw [if_neg h]
      exact fin i (by rw [List.take_of_length_le (by omega), List.take_of_length_le (by omega)])
theorem pleachlaw16_few.ev (l : List S38) (r : Bool) (h : pleachlaw16_few.f l = some r) : ∃ k, pleachlaw16_few_p.f k l = some r := by
  refine ⟨41 + 1, ?_⟩
  unfold pleachlaw16_few_p.f
  rw [← h]
  exact pleachlaw16_few.loop l 41 0 rfl
theorem pleachlaw16_few.calls (A0 : Option Addr) (c0 : Nat) (l0 : List (S38)) (r : Bool) (w : World) (hr0 : Kd.C k38 w A0 l0.length l0) (hc0 : l0.length ≤ c0) (h : pleachlaw16_few.f l0 = some r) :
    Calls Tryd.prog 14 #[.slice A0 l0.length c0] w fun e w' => e = .returned (.bool r) ∧ Below w.heap.size w w' := by
  obtain ⟨k, hk⟩ := pleachlaw16_few.ev _ _ h
  exact pleachlaw16_few_p.calls (k := k) (w := w) (h := hk) (hr0 := hr0) (hc0 := hc0)

/-! ### shelf_Shelf_Cut: function 24 -/
set_option maxHeartbeats 4000000 in
set_option maxRecDepth 100000 in
theorem shelf_Shelf_Cut.dead (v : Value) (n : Int) (w : World) (hd : shelf_Shelf_there.dead_ w v) :
    Calls Tryd.prog 24 #[v, .int .i64 n] w fun e w' => e = .returned (.int .i64 1) ∧ Drawn0 w w' := by
  have HD := Aside0.mk hd
  clear hd
  go_enter Tryd.func24, Tryd.ntmps24
  go_wp2_with (first | (go_at_call 28; (with_reducible refine (shelf_Shelf_there.dead v _ HD.out).mono ?_); rintro e w1 ⟨rfl, rfl⟩))
  go_ret
  exact ⟨rfl, Drawn0.refl _⟩
set_option maxHeartbeats 4000000 in
set_option maxRecDepth 100000 in
theorem shelf_Shelf_Cut.bad (base g B : Nat) (D : DataW Unit) (vt vn : Value) (ts : List ByteArray) (a b : ByteArray) (n : Int) (w : World) (hS : M.shelf Tryd.prog base w g B D vt vn ts a b) (hn : n < 0 ∨ (ts.length : Int) < n) :
    Calls Tryd.prog 24 #[.pointer (some ⟨g, 0, none⟩), .int .i64 n] w fun e w' => e = .returned (.int .i64 2) ∧ w = w' := by
  obtain ⟨A, c, rfl⟩ := M.rowW_slice hS.rt
  have c1 : w.cell? ⟨g, 1, none⟩ = some (.slice A ts.length c) := M.blk_cell hS.blk 1 _ rfl
  have HS := Aside0.mk hS
  clear hS
  by_cases h0 : n < 0
  · clear hn
    have hd : decide (n < 0) = true := decide_eq_true h0
    go_enter Tryd.func24, Tryd.ntmps24
    go_wp2_with (first | (go_at_call 28; (with_reducible refine (shelf_Shelf_there.calls base g B D _ vn ts a b _ HS.out).mono ?_); rintro e w1 ⟨rfl, rfl⟩))
    go_ret
    exact ⟨rfl, rfl⟩
  · have hn1 : (ts.length : Int) < n := hn.resolve_left h0
    have hd : decide (n < 0) = false := decide_eq_false h0
    have hd1 : decide ((ts.length : Int) < n) = true := decide_eq_true hn1
    clear hn
    go_enter Tryd.func24, Tryd.ntmps24
    go_wp2_with (first | (go_at_call 28; (with_reducible refine (shelf_Shelf_there.calls base g B D _ vn ts a b _ HS.out).mono ?_); rintro e w1 ⟨rfl, rfl⟩))
    go_ret
    exact ⟨rfl, rfl⟩
set_option maxHeartbeats 8000000 in
set_option maxRecDepth 100000 in
theorem shelf_Shelf_Cut.good (base g B : Nat) (D0 : DataW Unit) (vt vn : Value) (ts : List ByteArray) (a b : ByteArray) (n : Nat) (w : World) (hS : M.shelf Tryd.prog base w g B D0 vt vn ts a b) (hn : n ≤ ts.length) (hts : ts.length ≤ 1000000000) :
    Calls Tryd.prog 24 #[.pointer (some ⟨g, 0, none⟩), .int .i64 (n : Int)] w fun e w' => e = .returned (.int .i64 0) ∧ ∃ D1 vt1 vn1, M.shelf Tryd.prog base w' g B D1 vt1 vn1 (ts.take n) a b ∧ Below base w w' ∧ Kept w w' (M.feet g B vt vn) ∧ ∀ k, M.feet g B vt1 vn1 k → M.feet g B vt vn k := by
  obtain ⟨At, ct, rfl⟩ := M.rowW_slice hS.rt
  obtain ⟨An, cn, rfl⟩ := M.rowW_slice hS.rn
  have hct := M.rowW_cap hS.rt
  have hcn := M.rowW_cap hS.rn
  obtain ⟨m, hm⟩ : ∃ m, ts.length - n = m := ⟨_, rfl⟩
  obtain ⟨An', hAn, hsl⟩ := M.slice_tail (P := Tryd.prog) 22 9 Tryd.underlying22 Tryd.sizeOf9 An ts.length cn n hn hcn
  have hcutT := M.slice_cut (P := Tryd.prog) 22 9 Tryd.underlying22 Tryd.sizeOf9 At ts.length ct n (by omega)
  have hcutN := M.slice_cut (P := Tryd.prog) 22 9 Tryd.underlying22 Tryd.sizeOf9 An ts.length cn n (by omega)
  rw [hm] at hsl
  have c1 : w.cell? ⟨g, 1, none⟩ = some (.slice At ts.length ct) := M.blk_cell hS.blk 1 _ rfl
  have c2 : w.cell? ⟨g, 2, none⟩ = some (.slice An ts.length cn) := M.blk_cell hS.blk 2 _ rfl
  have HS := Aside0.mk hS
  have HA := Aside0.mk hAn
  have hd : decide ((n : Int) < 0) = false := decide_eq_false (by omega)
  have hd1 : decide ((ts.length : Int) < (n : Int)) = false := decide_eq_false (by omega)
  have hd2 : decide (ts.length < n) = false := decide_eq_false (by omega)
  clear hS hAn
  go_enter Tryd.func24, Tryd.ntmps24
  go_wp2_with (first | (go_at_call 28; (with_reducible refine (shelf_Shelf_there.calls base g B D0 _ _ ts a b _ HS.out).mono ?_); rintro e w1 ⟨rfl, rfl⟩))
  go_loopg [30] m (fun kq v30 wr => ∃ (i : Nat) (D : DataW Unit), v30 = .int .i64 (i : Int) ∧ i ≤ m ∧ Aside0 (kq = m - i) ∧ Aside0 (M.cutting Tryd.prog base wr g B D (.slice At ts.length ct) (.slice An ts.length cn) ts a b n (n + i)) ∧ Aside0 (Below base w wr) ∧ Aside0 (Kept w wr (M.feet g B (.slice At ts.length ct) (.slice An ts.length cn))))
  case atStart => exact ⟨0, D0, rfl, Nat.zero_le _, ⟨rfl⟩, ⟨M.cutting_start HS.out n⟩, ⟨Below.refl _ _⟩, ⟨Kept.refl _ _⟩⟩
  case round =>
    obtain ⟨i, D, rfl, hi, hkq, HC, HB, HK⟩ := hrel
    clear c1 c2
    by_cases hlt : i < m
    · obtain ⟨gn, rfl, rfl⟩ := HA.out (by omega) HS.out.rn
      obtain ⟨x, hx⟩ : ∃ x, (ts.map M.shaSum).getD (n + i) ByteArray.empty = x := ⟨_, rfl⟩
      have hxs : x.size = 32 := by
        rw [← hx, List.getD_eq_getElem?_getD, List.getElem?_map, List.getElem?_eq_getElem (by omega)]
        exact M.shaSum_size _
      have hKEY := Go.WideMaps.keyOf_string_mk Tryd.underlying9 (show x.size ≤ maxLen from by unfold maxLen; omega)
      have d0 : wr.cell? ⟨g, 0, none⟩ = some (.map (some B)) := M.blk_cell HC.out.blk 0 _ rfl
      have hci : wr.cell? ⟨gn, n + i, none⟩ = some (.string x) := by
        have := HC.out.rn.cells (g := gn) rfl (n + i) (.string x) (by rw [← hx]; simp [List.getD, show n + i < ts.length from by omega])
        rwa [add_plain] at this
      have hown := HC.out.map
      have p1 : decide ((i : Int) < (m : Int)) = true := decide_eq_true (by omega)
      have p2 : (i : Int) < (m : Int) := by omega
      have p3 : (0 : Int) ≤ (i : Int) := by omega
      have HX := Aside0.mk hx
      clear hx hsl hcutT hcutN
      go_wp2_with (first | (at_delete; refine wpList_delete_own _ rfl _ _ 51 9 rfl 3 shelf_Shelf_there.law Tryd.underlying51 _ B ts.length D rfl hown _ _ rfl hKEY ?_; intro w1 hown1 hturn1; have HO1 := Aside0.mk hown1; have HT1 := Aside0.mk hturn1; clear hown1 hturn1))
      go_roundg (m - (i + 1))
      case measure => have := hkq.out; omega
      case rel =>
        refine ⟨i + 1, D.del (.string x.data.toList), by go_num, by omega, ⟨rfl⟩, ⟨?_⟩, ⟨HB.out.grown HT1.out.grown (Nat.le_trans (Nat.le_of_lt (Nat.lt_of_le_of_lt HS.out.gb (M.lt_blk HS.out.blk))) HB.out.size) (fun k hk => by injection hk with hk; rw [← hk]; exact HS.out.bb)⟩, ⟨Kept.of_grown HT1.out.grown HK.out (fun k hk => .inl (.inr (.inl (by injection hk with hk; exact hk.symm))))⟩⟩
        exact M.cutting_step (k := n + i) HC.out shelf_Shelf_there.law HS.out.nd (Nat.le_add_right n i) (by omega) HX.out HS.out.gB HS.out.tB HS.out.nB HO1.out HT1.out
    · obtain rfl : i = m := by omega
      have e1 : wr.cell? ⟨g, 1, none⟩ = some (.slice At ts.length ct) := M.blk_cell HC.out.blk 1 _ rfl
      have e2 : wr.cell? ⟨g, 2, none⟩ = some (.slice An ts.length cn) := M.blk_cell HC.out.blk 2 _ rfl
      have f1 := M.blk_free HC.out.blk 1
      have f2 := M.blk_free HC.out.blk 2
      have p1 : decide ((i : Int) < (i : Int)) = false := decide_eq_false (by omega)
      have HE := Aside0.mk (M.cutting_end HS.out (n := n) (by have := HC.out; rwa [show n + i = ts.length from by omega] at this) hn)
      have HBE := Aside0.mk ((HB.out.setCell (p := ⟨g, 1, none⟩) HS.out.gb (.slice At n n)).setCell (p := ⟨g, 2, none⟩) HS.out.gb (.slice An n n))
      have HKE := Aside0.mk ((HK.out.setCell (p := ⟨g, 1, none⟩) (.inl (.inl rfl)) (.slice At n n)).setCell (p := ⟨g, 2, none⟩) (.inl (.inl rfl)) (.slice An n n))
      clear hsl
      go_wp2
      go_region
      all_goals
        go_wp2
        go_ret
        refine ⟨rfl, D, .slice At n n, .slice An n n, M.shelf_below HE.out (by first | exact Below.refl _ _ | exact below_drew1 (Below.refl _ _)), (by first | exact HBE.out | exact below_drew1 HBE.out), (by first | exact HKE.out | exact Kept.drew HKE.out), ?_⟩
        rintro k (h | h | h | h)
        · exact .inl h
        · exact .inr (.inl h)
        · exact .inr (.inr (.inl ((M.own_slice At n n ts.length ct).trans h)))
        · exact .inr (.inr (.inr ((M.own_slice An n n ts.length cn).trans h)))
theorem shelf_Shelf_Cut.any (base g : Nat) (F : Nat → Prop) (s : M.SS) (n : Int) (w : World) (hS : M.Sh Tryd.prog base w g F s) (hts : s.ts.length ≤ 1000000000) (h0 : 0 ≤ n) (h1 : n ≤ (s.ts.length : Int)) :
    Calls Tryd.prog 24 #[.pointer (some ⟨g, 0, none⟩), .int .i64 n] w fun e w' => e = .returned (.int .i64 0) ∧ M.ShTo Tryd.prog base w g F (s.cut n.toNat) w' := by
  obtain ⟨B, D, vt, vn, hs, hF, hl⟩ := hS
  obtain ⟨k, rfl⟩ : ∃ k : Nat, n = (k : Int) := ⟨n.toNat, by omega⟩
  refine (shelf_Shelf_Cut.good base g B D vt vn s.ts s.a s.b k w hs (by omega) hts).mono ?_
  rintro e w' ⟨rfl, D1, vt1, vn1, h, hb, hk, hf⟩
  exact ⟨rfl, M.Sh.to_ (s1 := s.cut k) hs hF hl h hb hk (fun j hj => .inl (hf j hj))⟩
theorem shelf_Shelf_Cut.no (base g : Nat) (F : Nat → Prop) (s : M.SS) (n : Int) (w : World) (hS : M.Sh Tryd.prog base w g F s) (hn : n < 0 ∨ (s.ts.length : Int) < n) :
    Calls Tryd.prog 24 #[.pointer (some ⟨g, 0, none⟩), .int .i64 n] w fun e w' => e = .returned (.int .i64 2) ∧ w = w' := by
  obtain ⟨B, D, vt, vn, hs, hF, hl⟩ := hS
  exact shelf_Shelf_Cut.bad base g B D vt vn s.ts s.a s.b n w hs hn

/-! ### shelf_Shelf_Only: function 25 -/
set_option maxHeartbeats 4000000 in
set_option maxRecDepth 100000 in
theorem shelf_Shelf_Only.dead (v : Value) (f : Value) (w : World) (hd : shelf_Shelf_there.dead_ w v) :
    Calls Tryd.prog 25 #[v, f] w fun e w' => e = .returned (.pointer none) ∧ Drawn0 w w' := by
  have HD := Aside0.mk hd
  clear hd
  go_enter Tryd.func25, Tryd.ntmps25
  go_wp2_with (first | (go_at_call 28; (with_reducible refine (shelf_Shelf_there.dead v _ HD.out).mono ?_); rintro e w1 ⟨rfl, rfl⟩))
  go_ret
  exact ⟨rfl, Drawn0.refl _⟩
def pleachlaw16_even.f (a0 : ByteArray) : Option (Bool) := if a0.toList = ([] : List UInt8) then (some false) else (if 0 < (a0.size : Int) then (some ((Int.tmod (bt a0 0) 2) == 0)) else (none))
set_option maxHeartbeats 8000000 in
set_option maxRecDepth 100000 in
theorem pleachlaw16_even.calls (a0 : ByteArray) (r : Bool) (w : World) (h : pleachlaw16_even.f a0 = some r) :
    Calls Tryd.prog 26 #[.string a0] w fun e w' => e = .returned (.bool r) ∧ Drawn0 w w' := by
  have H : (if a0.toList = ([] : List UInt8) then (some false) else (if 0 < (a0.size : Int) then (some ((Int.tmod (bt a0 0) 2) == 0)) else (none))) = some r := h
  clear h
  by_cases c2 : a0.toList = ([] : List UInt8)
  · rw [if_pos c2] at H
    have c2b0 : (a0.toList == ([] : List UInt8)) = true := beq_iff_eq.mpr c2
    have c2b1 : (a0.toList != ([] : List UInt8)) = false := bne_eq_false_iff_eq.mpr c2
    clear c2
    obtain rfl := Option.some.inj H
    go_enter Tryd.func26, Tryd.ntmps26
    go_wp2
    go_ret
    exact ⟨by first | rfl | (simp; done) | (simp [*]; done), by repeat (first | exact Drawn0.refl _ | apply Drawn0.step)⟩
  · rw [if_neg c2] at H
    have c2b0 : (a0.toList == ([] : List UInt8)) = false := beq_eq_false_iff_ne.mpr c2
    have c2b1 : (a0.toList != ([] : List UInt8)) = true := bne_iff_ne.mpr c2
    by_cases c3 : 0 < (a0.size : Int)
    · rw [if_pos c3] at H
      have c3b0 : decide (0 < (a0.size : Int)) = true := decide_eq_true c3
      have c3b1 : decide (0 < a0.size) = true := decide_eq_true (by omega)
      clear c3
      obtain rfl := Option.some.inj H
      have p4 : 0 ≤ (0 : Int) := (by omega)
      have q4 : 0 < a0.size := (by have : (0 : Int) < (a0.size : Int) := of_decide_eq_true (by first | (with_reducible assumption) | assumption); omega)
      have hx4 : ∀ h : 0 < a0.size, ((a0[0]'h).toNat : Int) = bt a0 0 := bt_at a0 0
      clear p4
      have qi4 : (0 < (a0.size : Int)) = True := eq_true (of_decide_eq_true (by first | (with_reducible assumption) | assumption))
      replace q4 := eq_true q4
      go_enter Tryd.func26, Tryd.ntmps26
      go_wp2
      go_ret
      exact ⟨by first | rfl | (simp; done) | (simp [*]; done), by repeat (first | exact Drawn0.refl _ | apply Drawn0.step)⟩
    · rw [if_neg c3] at H
      exact absurd H (by simp)
def pleachlaw16_even.p (x : ByteArray) : Bool := if x.toList = ([] : List UInt8) then false else (Int.tmod (bt x 0) 2) == 0
theorem pleachlaw16_even.eq_ (x : ByteArray) : pleachlaw16_even.f x = some (pleachlaw16_even.p x) := by
  unfold pleachlaw16_even.f pleachlaw16_even.p
  by_cases h : x.toList = ([] : List UInt8)
  · rw [if_pos h, if_pos h]
  · have hs : 0 < (x.size : Int) := by
      rcases Nat.eq_zero_or_pos x.size with q | q
      · exact absurd (by rw [M.toList_bs]; exact List.eq_nil_of_length_eq_zero (by rw [M.bs_length]; exact q)) h
      · omega
    rw [if_neg h, if_neg h, if_pos hs]
theorem shelf_Shelf_Only.yes (x : ByteArray) (b : Bool) (hb : M.yes x = b) (w : World) : Calls Tryd.prog 34 #[.string x] w fun e w' => e = .returned (.bool b) ∧ Below w.heap.size w w' := by
  obtain rfl : true = b := hb
  go_enter Tryd.func34, Tryd.ntmps34
  go_wp2
  go_ret
  exact ⟨rfl, Below.refl _ _⟩
set_option maxHeartbeats 8000000 in
set_option maxRecDepth 100000 in
theorem shelf_Shelf_Only.even (base g : Nat) (F : Nat → Prop) (s : M.SS) (w : World) (hS0 : M.Sh Tryd.prog base w g F s) (hT : M.stab w) (hz : ∀ t ∈ s.ts, t.size ≤ 1000000) (hts : s.ts.length ≤ 1000000) :
    Calls Tryd.prog 25 #[.pointer (some ⟨g, 0, none⟩), .func (.func 26) #[] #[]] w fun e w' => ∃ g2 F2, e = .returned (.pointer (some ⟨g2, 0, none⟩)) ∧ M.Sh Tryd.prog w.heap.size w' g2 F2 (s.only (pleachlaw16_even.p) s.ts.length) ∧ Below w.heap.size w w' := by
  obtain ⟨B, D, vt, vn, hS, hF, hl⟩ := hS0
  obtain ⟨At, ct, rfl⟩ := M.rowW_slice hS.rt
  obtain ⟨An, cn, rfl⟩ := M.rowW_slice hS.rn
  have HZ := Aside0.mk hz
  have HT := Aside0.mk hT
  have hlt := Aside0.mk (M.stab_lt hT)
  have HS := Aside0.mk hS
  obtain ⟨ts, sa, sb⟩ := s
  simp only at HS HZ hts ⊢
  have HON := Aside0.mk (fun k (hk : k < ts.length) => M.SS.only_step (pleachlaw16_even.p) ts sa sb k hk)
  have HLN := Aside0.mk (fun k (hk : k ≤ ts.length) => M.SS.only_len (pleachlaw16_even.p) ts sa sb k)
  have HO0 := Aside0.mk (M.SS.only_zero (pleachlaw16_even.p) ts sa sb)
  clear hS hT hz hF hl
  go_enter Tryd.func25, Tryd.ntmps25
  go_wp2_with (first | (go_at_call 28; (with_reducible refine (shelf_Shelf_there.calls base g B D _ _ ts sa sb _ HS.out).mono ?_); rintro e w1 ⟨rfl, rfl⟩) | (go_at_call 9; (with_reducible refine (shelf_New.any _).mono ?_); rintro e w1 ⟨g2, F2, rfl, hs1, hb1⟩; have HS1 := Aside0.mk hs1; have HB1 := Aside0.mk hb1; have HW1 := Aside0.mk (M.shelf_below HS.out hb1); have d2 : w1.cell? ⟨g, 2, none⟩ = some (.slice An ts.length cn) := M.blk_cell HW1.out.blk 2 _ rfl; clear hs1 hb1))
  clear d2
  go_loopg [17] (ts.length) (fun kq v17 wr => ∃ (k : Nat) (F2 : Nat → Prop), v17 = .int .i64 (k : Int) ∧ k ≤ ts.length ∧ Aside0 (kq = ts.length - k) ∧ Aside0 (M.Sh Tryd.prog w.heap.size wr g2 F2 (M.SS.only ⟨ts, sa, sb⟩ (pleachlaw16_even.p) k)) ∧ Aside0 (Below w.heap.size w wr))
  case atStart => exact ⟨0, F2, rfl, Nat.zero_le _, ⟨rfl⟩, ⟨by rw [HO0.out]; exact HS1.out⟩, HB1⟩
  case round =>
    clear HW1 HS1 HB1
    obtain ⟨k, F3, rfl, hk, hkq, HSr, HB⟩ := hrel
    by_cases hlt2 : k < ts.length
    · have HW := Aside0.mk (M.shelf_below HS.out HB.out)
      obtain ⟨gt, ct2, e1, _, _⟩ := HS.out.rt.form (by omega)
      obtain ⟨gn, cn2, e2, _, _⟩ := HS.out.rn.form (by omega)
      injection e1 with e1 _ e3
      injection e2 with e2 _ e4
      subst e1 e2 e3 e4
      obtain ⟨t, ht⟩ : ∃ t, ts.getD k ByteArray.empty = t := ⟨_, rfl⟩
      obtain ⟨x, hx⟩ : ∃ x, M.shaSum t = x := ⟨_, rfl⟩
      have htm : t ∈ ts := by rw [← ht]; exact M.getD_mem hlt2
      have hzt := HZ.out t htm
      have hn1 : wr.cell? ⟨gn, k, none⟩ = some (.string x) := by
        have := HW.out.rn.cells (g := gn) rfl k (.string x) (by rw [← hx, ← ht]; simp [List.getD, hlt2])
        rwa [add_plain] at this
      have hd1 : wr.cell? ⟨g, 1, none⟩ = some (.slice (some ⟨gt, 0, none⟩) ts.length ct) := M.blk_cell HW.out.blk 1 _ rfl
      have ht1 : wr.cell? ⟨gt, k, none⟩ = some (.string t) := M.row_cell HW.out.rt k t hlt2 ht
      have p1 : (k : Int) < (ts.length : Int) := by omega
      have p2 : (0 : Int) ≤ (k : Int) := by omega
      have p3 := decide_eq_true p1
      have hst := HON.out k hlt2
      rw [ht, hx] at hst
      have HTr := Aside0.mk (M.stab_below HT.out HB.out hlt.out)
      have hln := HLN.out k hk
      have HTT := Aside0.mk ht
      clear ht hx htm
      have HE := Aside0.mk (pleachlaw16_even.eq_ x)
      obtain ⟨bb, hbb⟩ : ∃ bb, pleachlaw16_even.p x = bb := ⟨_, rfl⟩
      rw [hbb] at hst HE
      clear hbb
      cases bb with
      | true =>
        rw [if_pos rfl] at hst
        have HST := Aside0.mk hst
        clear hst
        obtain ⟨s1, hs1⟩ : ∃ s1, M.SS.only ⟨ts, sa, sb⟩ (pleachlaw16_even.p) k = s1 := ⟨_, rfl⟩
        rw [hs1] at HST HSr hln
        go_wp2_with (first | (go_at_call 26; (with_reducible refine (pleachlaw16_even.calls x _ _ HE.out).mono ?_); rintro e we ⟨rfl, hd⟩; have HD := hd.below; have HBe := Aside0.mk (below_step HB.out HD); have HSe := Aside0.mk (HSr.out.below HD); have HTe := Aside0.mk (M.stab_below HT.out HBe.out hlt.out); have hd1e : we.cell? ⟨g, 1, none⟩ = some (.slice (some ⟨gt, 0, none⟩) ts.length ct) := M.blk_cell (M.shelf_below HS.out HBe.out).blk 1 _ rfl; have ht1e : we.cell? ⟨gt, k, none⟩ = some (.string t) := M.row_cell (M.shelf_below HS.out HBe.out).rt k t hlt2 HTT.out; clear HD hd) | (go_at_call 10; (with_reducible refine (shelf_Shelf_Put.any w.heap.size g2 F3 s1 t _ HSe.out HTe.out (by omega) (by omega)).mono ?_); rintro e w3 ⟨rfl, F4, hs4, hf4, hk4, hb4⟩; have HS4 := Aside0.mk hs4; have HB4 := Aside0.mk (HBe.out.trans hb4); clear hs4 hf4 hk4 hb4))
        go_roundg (ts.length - (k + 1))
        case measure => have := hkq.out; omega
        case rel => exact ⟨k + 1, F4, by go_num, by omega, ⟨rfl⟩, ⟨by rw [HST.out]; exact HS4.out⟩, HB4⟩
      | false =>
        rw [if_neg (by simp)] at hst
        have HST := Aside0.mk hst
        clear hst
        go_wp2_with (first | (go_at_call 26; (with_reducible refine (pleachlaw16_even.calls x _ _ HE.out).mono ?_); rintro e we ⟨rfl, hd⟩; have HD := hd.below; have HBe := Aside0.mk (below_step HB.out HD); have HSe := Aside0.mk (HSr.out.below HD); have HTe := Aside0.mk (M.stab_below HT.out HBe.out hlt.out); have hd1e : we.cell? ⟨g, 1, none⟩ = some (.slice (some ⟨gt, 0, none⟩) ts.length ct) := M.blk_cell (M.shelf_below HS.out HBe.out).blk 1 _ rfl; have ht1e : we.cell? ⟨gt, k, none⟩ = some (.string t) := M.row_cell (M.shelf_below HS.out HBe.out).rt k t hlt2 HTT.out; clear HD hd))
        go_roundg (ts.length - (k + 1))
        case measure => have := hkq.out; omega
        case rel => exact ⟨k + 1, F3, by go_num, by omega, ⟨rfl⟩, ⟨by rw [HST.out]; exact HSe.out⟩, HBe⟩
    · obtain rfl : k = ts.length := by omega
      have p3 : decide ((ts.length : Int) < (ts.length : Int)) = false := decide_eq_false (by omega)
      clear hlt2
      go_wp2
      go_ret
      exact ⟨g2, F3, rfl, HSr.out, HB.out⟩
set_option maxHeartbeats 8000000 in
set_option maxRecDepth 100000 in
theorem shelf_Shelf_Only.all_ (base g : Nat) (F : Nat → Prop) (s : M.SS) (w : World) (hS0 : M.Sh Tryd.prog base w g F s) (hT : M.stab w) (hz : ∀ t ∈ s.ts, t.size ≤ 1000000) (hts : s.ts.length ≤ 1000000) :
    Calls Tryd.prog 25 #[.pointer (some ⟨g, 0, none⟩), .func (.func 34) #[] #[]] w fun e w' => ∃ g2 F2, e = .returned (.pointer (some ⟨g2, 0, none⟩)) ∧ M.Sh Tryd.prog w.heap.size w' g2 F2 (s.only M.yes s.ts.length) ∧ Below w.heap.size w w' := by
  obtain ⟨B, D, vt, vn, hS, hF, hl⟩ := hS0
  obtain ⟨At, ct, rfl⟩ := M.rowW_slice hS.rt
  obtain ⟨An, cn, rfl⟩ := M.rowW_slice hS.rn
  have HZ := Aside0.mk hz
  have HT := Aside0.mk hT
  have hlt := Aside0.mk (M.stab_lt hT)
  have HS := Aside0.mk hS
  obtain ⟨ts, sa, sb⟩ := s
  simp only at HS HZ hts ⊢
  have HON := Aside0.mk (fun k (hk : k < ts.length) => M.SS.only_step M.yes ts sa sb k hk)
  have HLN := Aside0.mk (fun k (hk : k ≤ ts.length) => M.SS.only_len M.yes ts sa sb k)
  have HO0 := Aside0.mk (M.SS.only_zero M.yes ts sa sb)
  clear hS hT hz hF hl
  go_enter Tryd.func25, Tryd.ntmps25
  go_wp2_with (first | (go_at_call 28; (with_reducible refine (shelf_Shelf_there.calls base g B D _ _ ts sa sb _ HS.out).mono ?_); rintro e w1 ⟨rfl, rfl⟩) | (go_at_call 9; (with_reducible refine (shelf_New.any _).mono ?_); rintro e w1 ⟨g2, F2, rfl, hs1, hb1⟩; have HS1 := Aside0.mk hs1; have HB1 := Aside0.mk hb1; have HW1 := Aside0.mk (M.shelf_below HS.out hb1); have d2 : w1.cell? ⟨g, 2, none⟩ = some (.slice An ts.length cn) := M.blk_cell HW1.out.blk 2 _ rfl; clear hs1 hb1))
  clear d2
  go_loopg [17] (ts.length) (fun kq v17 wr => ∃ (k : Nat) (F2 : Nat → Prop), v17 = .int .i64 (k : Int) ∧ k ≤ ts.length ∧ Aside0 (kq = ts.length - k) ∧ Aside0 (M.Sh Tryd.prog w.heap.size wr g2 F2 (M.SS.only ⟨ts, sa, sb⟩ M.yes k)) ∧ Aside0 (Below w.heap.size w wr))
  case atStart => exact ⟨0, F2, rfl, Nat.zero_le _, ⟨rfl⟩, ⟨by rw [HO0.out]; exact HS1.out⟩, HB1⟩
  case round =>
    clear HW1 HS1 HB1
    obtain ⟨k, F3, rfl, hk, hkq, HSr, HB⟩ := hrel
    by_cases hlt2 : k < ts.length
    · have HW := Aside0.mk (M.shelf_below HS.out HB.out)
      obtain ⟨gt, ct2, e1, _, _⟩ := HS.out.rt.form (by omega)
      obtain ⟨gn, cn2, e2, _, _⟩ := HS.out.rn.form (by omega)
      injection e1 with e1 _ e3
      injection e2 with e2 _ e4
      subst e1 e2 e3 e4
      obtain ⟨t, ht⟩ : ∃ t, ts.getD k ByteArray.empty = t := ⟨_, rfl⟩
      obtain ⟨x, hx⟩ : ∃ x, M.shaSum t = x := ⟨_, rfl⟩
      have htm : t ∈ ts := by rw [← ht]; exact M.getD_mem hlt2
      have hzt := HZ.out t htm
      have hn1 : wr.cell? ⟨gn, k, none⟩ = some (.string x) := by
        have := HW.out.rn.cells (g := gn) rfl k (.string x) (by rw [← hx, ← ht]; simp [List.getD, hlt2])
        rwa [add_plain] at this
      have hd1 : wr.cell? ⟨g, 1, none⟩ = some (.slice (some ⟨gt, 0, none⟩) ts.length ct) := M.blk_cell HW.out.blk 1 _ rfl
      have ht1 : wr.cell? ⟨gt, k, none⟩ = some (.string t) := M.row_cell HW.out.rt k t hlt2 ht
      have p1 : (k : Int) < (ts.length : Int) := by omega
      have p2 : (0 : Int) ≤ (k : Int) := by omega
      have p3 := decide_eq_true p1
      have hst := HON.out k hlt2
      rw [ht, hx] at hst
      have HTr := Aside0.mk (M.stab_below HT.out HB.out hlt.out)
      have hln := HLN.out k hk
      have HTT := Aside0.mk ht
      clear ht hx htm
      obtain ⟨bb, hbb⟩ : ∃ bb, M.yes x = bb := ⟨_, rfl⟩
      rw [hbb] at hst
      have HE := Aside0.mk hbb
      clear hbb
      cases bb with
      | true =>
        rw [if_pos rfl] at hst
        have HST := Aside0.mk hst
        clear hst
        obtain ⟨s1, hs1⟩ : ∃ s1, M.SS.only ⟨ts, sa, sb⟩ M.yes k = s1 := ⟨_, rfl⟩
        rw [hs1] at HST HSr hln
        go_wp2_with (first | (go_at_call 34; (with_reducible refine (shelf_Shelf_Only.yes x _ HE.out _).mono ?_); rintro e we ⟨rfl, HD⟩; have HBe := Aside0.mk (below_step HB.out HD); have HSe := Aside0.mk (HSr.out.below HD); have HTe := Aside0.mk (M.stab_below HT.out HBe.out hlt.out); have hd1e : we.cell? ⟨g, 1, none⟩ = some (.slice (some ⟨gt, 0, none⟩) ts.length ct) := M.blk_cell (M.shelf_below HS.out HBe.out).blk 1 _ rfl; have ht1e : we.cell? ⟨gt, k, none⟩ = some (.string t) := M.row_cell (M.shelf_below HS.out HBe.out).rt k t hlt2 HTT.out; clear HD) | (go_at_call 10; (with_reducible refine (shelf_Shelf_Put.any w.heap.size g2 F3 s1 t _ HSe.out HTe.out (by omega) (by omega)).mono ?_); rintro e w3 ⟨rfl, F4, hs4, hf4, hk4, hb4⟩; have HS4 := Aside0.mk hs4; have HB4 := Aside0.mk (HBe.out.trans hb4); clear hs4 hf4 hk4 hb4))
        go_roundg (ts.length - (k + 1))
        case measure => have := hkq.out; omega
        case rel => exact ⟨k + 1, F4, by go_num, by omega, ⟨rfl⟩, ⟨by rw [HST.out]; exact HS4.out⟩, HB4⟩
      | false =>
        rw [if_neg (by simp)] at hst
        have HST := Aside0.mk hst
        clear hst
        go_wp2_with (first | (go_at_call 34; (with_reducible refine (shelf_Shelf_Only.yes x _ HE.out _).mono ?_); rintro e we ⟨rfl, HD⟩; have HBe := Aside0.mk (below_step HB.out HD); have HSe := Aside0.mk (HSr.out.below HD); have HTe := Aside0.mk (M.stab_below HT.out HBe.out hlt.out); have hd1e : we.cell? ⟨g, 1, none⟩ = some (.slice (some ⟨gt, 0, none⟩) ts.length ct) := M.blk_cell (M.shelf_below HS.out HBe.out).blk 1 _ rfl; have ht1e : we.cell? ⟨gt, k, none⟩ = some (.string t) := M.row_cell (M.shelf_below HS.out HBe.out).rt k t hlt2 HTT.out; clear HD))
        go_roundg (ts.length - (k + 1))
        case measure => have := hkq.out; omega
        case rel => exact ⟨k + 1, F3, by go_num, by omega, ⟨rfl⟩, ⟨by rw [HST.out]; exact HSe.out⟩, HBe⟩
    · obtain rfl : k = ts.length := by omega
      have p3 : decide ((ts.length : Int) < (ts.length : Int)) = false := decide_eq_false (by omega)
      clear hlt2
      go_wp2
      go_ret
      exact ⟨g2, F3, rfl, HSr.out, HB.out⟩

/-! ### pleachlaw16_even: function 26 -/
/-- Walked beside Only. -/
theorem pleachlaw16_even.here : True := trivial

end Go.Proofs.YtccekjebfafgcaaDoor.EShelfApart
