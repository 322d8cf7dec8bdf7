-- Written by this session's own program (wip/tools/ext.py) for this claim; Lean checks it.
import Derived.Test.YtbjcpdeinmlbhaaEFanTellsx0
import Derived.Test.YtbjcpdeinmlbhaaEFanTellsx1
import Derived.Test.YtbjcpdeinmlbhaaEFanTellsx2
namespace Go.Proofs.Ytbjcpdeinmlbhaa.EFanTells
open Go.RowKit Go.Proofs.YtbjcpdeinmlbhaaW.PrintWords Go.Proofs.YtbjcpdeinmlbhaaW.PrintLast Go.Proofs.YtbjcpdeinmlbhaaW.PrintMore
attribute [local go_sem] M.run_leq M.run_gtr M.run_geq max2_int min2_int max_two min_two max_three min_three max_four min_four   -- for this text's walks alone
set_option linter.unusedVariables false
set_option linter.unusedSimpArgs false

/-! ### fan_Fan_Put: function 14 -/
def fan_Fan_Put.bytes : List Int → List UInt8
  | [] => []
  | x :: l => M.vb x.toNat ++ fan_Fan_Put.bytes l
theorem fan_Fan_Put.bytes_app (a b : List Int) : fan_Fan_Put.bytes (a ++ b) = fan_Fan_Put.bytes a ++ fan_Fan_Put.bytes b := by
  induction a with
  | nil => rfl
  | cons x a ih => rw [List.cons_append, fan_Fan_Put.bytes, fan_Fan_Put.bytes, ih, List.append_assoc]
theorem fan_Fan_Put.bytes_le (l : List Int) (h : ∀ x ∈ l, 0 ≤ x ∧ x ≤ 4611686018427387903) : (fan_Fan_Put.bytes l).length ≤ 10 * l.length := by
  induction l with
  | nil => simp [fan_Fan_Put.bytes]
  | cons x l ih =>
    have := ih (fun y hy => h y (List.mem_cons_of_mem _ hy))
    have hx := h x List.mem_cons_self
    have := M.vb_le x.toNat (by omega)
    rw [fan_Fan_Put.bytes, List.length_append, List.length_cons]; omega
def fan_Fan_Put.f (xs : List Int) : Option ByteArray := if xs.length = 16 ∧ (∀ x ∈ xs, 0 ≤ x ∧ x ≤ 4611686018427387903) then some (M.sb (fan_Fan_Put.bytes xs)) else none
set_option maxHeartbeats 8000000 in
set_option maxRecDepth 100000 in
theorem fan_Fan_Put.calls (xs : List Int) (r : ByteArray) (w : World) (h : fan_Fan_Put.f xs = some r) :
    Calls Try.prog 14 #[.agg (nums .i64 xs).toArray] w fun e w' => e = .returned (.string r) ∧ Below w.heap.size w w' := by
  unfold fan_Fan_Put.f at h
  split at h
  case isFalse => cases h
  case isTrue hh =>
  obtain ⟨hl, hx⟩ := hh
  obtain rfl := Option.some.inj h
  have HX := Aside0.mk hx
  have HL := Aside0.mk hl
  have HB := Aside0.mk (Below.refl w.heap.size w)
  clear h hx hl
  go_enter Try.func14, Try.ntmps14
  go_wp2_with (first | ((with_reducible refine gate_dst (N := 1) rfl ?_); refine box_event ?hg (N := 1) ?hd (cs := (nums .i64 xs).toArray) (t := 26) ?hr ?_; (case hd => rfl); (case hg => rfl); (case hr => first | (go_simp; done) | (go_simp; rfl)); intro gb hg w2 hbox hb; subst hg; have HA := Aside0.mk (show M.arr w2 w.heap.size 26 .i64 xs from hbox); have n1_ := Aside0.mk (below_step HB.out hb); clear HB; have HB := n1_; clear n1_ hb hbox))
  go_loopw [3, 5] (fun v3 v5 wr => ∃ i : Nat, v5 = .int .i64 (i : Int) ∧ i ≤ 16 ∧ v3 = .string (M.sb (fan_Fan_Put.bytes (xs.take i))) ∧ Aside0 (M.arr wr w.heap.size 26 .i64 xs) ∧ Aside0 (Below w.heap.size w wr)) (fun _ v5 _ => 16 - (intOf v5).toNat)
  case atStart => exact ⟨0, rfl, Nat.zero_le _, rfl, HA, HB⟩
  case round =>
    clear HA HB
    obtain ⟨i, rfl, hi, rfl, HA, HB⟩ := hrel
    by_cases hlt : i < 16
    · have hlt' : i < xs.length := by rw [HL.out]; exact hlt
      have hb := fan_Fan_Put.bytes_le (xs.take i) (fun x hx => HX.out x (List.mem_of_mem_take hx))
      have htl : (xs.take i).length ≤ i := List.length_take_le _ _
      have hxi := HX.out _ (List.getElem_mem hlt')
      have hv := M.vb_le xs[i].toNat (by omega)
      have HT := Aside0.mk (show M.sb (fan_Fan_Put.bytes (xs.take i)) ++ M.sb (M.vb xs[i].toNat) = M.sb (fan_Fan_Put.bytes (xs.take (i + 1))) from by
        rw [List.take_succ_eq_append_getElem hlt', fan_Fan_Put.bytes_app, ← M.sb_append]
        simp [fan_Fan_Put.bytes])
      have HP : Aside0 (scan_PutNum.f xs[i] = some (M.sb (M.vb xs[i].toNat))) := ⟨by unfold scan_PutNum.f; rw [if_pos (by omega)]⟩
      have hc := M.arr_cell HA.out i hlt'
      rw [show xs.getD i 0 = xs[i] from by simp [List.getD, hlt']] at hc
      have hs1 : (M.sb (fan_Fan_Put.bytes (xs.take i))).size + (M.sb (M.vb xs[i].toNat)).size ≤ 9223372036854775807 := by rw [M.size_sb, M.size_sb]; omega
      have g1 : (0 : Int) ≤ (i : Int) := by omega
      have g2 : (i : Int) < 16 := by omega
      clear hb htl hv hxi
      generalize M.sb (fan_Fan_Put.bytes (xs.take i)) = acc at hs1 HT
      generalize M.sb (M.vb xs[i].toNat) = t at hs1 HT HP
      generalize xs[i] = x at HP hc
      have c1 := eq_true hs1
      have c2 := decide_eq_true hs1
      have c3 : (9223372036854775807 < acc.size + t.size) = False := eq_false (Nat.not_lt.2 hs1)
      go_wp2_with (first | (go_at_call 21; refine (scan_PutNum.calls x t _ HP.out).mono ?_; rintro e w3 ⟨rfl, hb3⟩; have HA3 := Aside0.mk (M.arr_below HA.out hb3); have HB3 := Aside0.mk (below_step HB.out hb3); clear hb3))
      go_roundw
      case rel => exact ⟨i + 1, by go_num, by omega, by rw [HT.out], HA3, HB3⟩
      case measure => simp [intOf]; omega
    · obtain rfl : i = 16 := by omega
      go_wp2
      go_ret
      refine ⟨?_, HB.out⟩
      show Ending.returned (Value.string (M.sb (fan_Fan_Put.bytes (xs.take 16)))) = _
      rw [List.take_of_length_le (Nat.le_of_eq HL.out)]

/-! ### pleachlaw12_FanTells: function 3 -/
def pleachlaw12_FanTells.f (l : List ByteArray) (k : Int) : Option Bool := if -9223372036854775808 ≤ k ∧ k ≤ 9223372036854775807 then some true else none
theorem pleachlaw12_FanTells.eq0 (W : World) : (Op.equalIn 10000 26 (.agg #[.int .i64 0, .int .i64 0, .int .i64 0, .int .i64 0, .int .i64 0, .int .i64 0, .int .i64 0, .int .i64 0, .int .i64 0, .int .i64 0, .int .i64 0, .int .i64 0, .int .i64 0, .int .i64 0, .int .i64 0, .int .i64 0]) (.agg #[.int .i64 0, .int .i64 0, .int .i64 0, .int .i64 0, .int .i64 0, .int .i64 0, .int .i64 0, .int .i64 0, .int .i64 0, .int .i64 0, .int .i64 0, .int .i64 0, .int .i64 0, .int .i64 0, .int .i64 0, .int .i64 0])).run Try.prog W = .ok true W := by kernel_rfl
theorem pleachlaw12_FanTells.few_ (l : List ByteArray) : ∃ b, pleachlaw12_few.f l = some b ∧ (b = true → l.length ≤ 100) := by
  unfold pleachlaw12_few.f
  by_cases h : (l.length : Int) ≤ 100
  · rw [if_pos h]
    unfold pleachplain_Bytes.f
    rw [if_pos (by omega), Option.bind_some]
    exact ⟨_, rfl, fun _ => by omega⟩
  · rw [if_neg h]
    exact ⟨_, rfl, fun z => by cases z⟩
set_option maxHeartbeats 8000000 in
set_option maxRecDepth 100000 in
theorem pleachlaw12_FanTells.out1 (A0 : Option Addr) (c0 : Nat) (l0 : List ByteArray) (k : Int) (w : World) (hr0 : Kd.C Kd.string w A0 l0.length l0) (hc0 : l0.length ≤ c0) (hf : pleachlaw12_few.f l0 = some false) :
    Calls Try.prog 3 #[.slice A0 l0.length c0, .int .i64 k] w fun e w' => e = .returned (.bool true) ∧ Below w.heap.size w w' := by
  have HF := Aside0.mk hf
  have HR := Aside0.mk hr0
  have HW := Aside0.mk (show pleachlaw12_awake.f = some true from rfl)
  clear hf hr0
  go_enter Try.func3, Try.ntmps3
  go_wp2_with (first | (go_at_call 6; (with_reducible refine (pleachlaw12_few.calls A0 c0 l0 false _ HR.out hc0 HF.out).mono ?_); rintro e w1 ⟨rfl, hb1⟩; have HB1 := Aside0.mk hb1; clear hb1) | (go_at_call 7; (with_reducible refine (pleachlaw12_awake.calls true _ HW.out).mono ?_); rintro e w2 ⟨rfl, hb2⟩; have HB2 := Aside0.mk (below_step HB1.out hb2); clear hb2))
  go_ret
  exact ⟨rfl, HB2.out⟩
set_option maxHeartbeats 16000000 in
set_option maxRecDepth 100000 in
theorem pleachlaw12_FanTells.out2 (A0 : Option Addr) (c0 : Nat) (l0 : List ByteArray) (k : Int) (w : World) (hr0 : Kd.C Kd.string w A0 l0.length l0) (hc0 : l0.length ≤ c0) (hf : pleachlaw12_few.f l0 = some true) (hl : l0.length ≤ 100) (hw : M.sumE none l0 ≠ 0) :
    Calls Try.prog 3 #[.slice A0 l0.length c0, .int .i64 k] w fun e w' => e = .returned (.bool true) ∧ Below w.heap.size w w' := by
  have HF := Aside0.mk hf
  have HR := Aside0.mk hr0
  have HW := Aside0.mk (show pleachlaw12_awake.f = some true from rfl)
  have HE : Aside0 (pleachref12_Wrong.f l0 = some (M.sumE none l0)) := ⟨by unfold pleachref12_Wrong.f; rw [if_pos (by omega)]⟩
  have HC : Aside0 (fan_Check.f l0 = some (M.sumE none l0)) := ⟨by unfold fan_Check.f; rw [if_pos (by omega)]⟩
  have HO : Aside0 (fan_Of.f l0 = some (List.replicate 16 0, M.sumE none l0)) := ⟨by unfold fan_Of.f; rw [if_pos (by omega), if_neg hw]⟩
  generalize M.sumE none l0 = er at hw HE HC HO
  have t1 : (er != 0) = true := bne_iff_ne.2 hw
  have t2 : (er == 0) = false := beq_eq_false_iff_ne.2 hw
  have t3 : (er != er) = false := by simp
  have hEQ := pleachlaw12_FanTells.eq0
  have t4 : (er == er) = true := by simp
  clear hf hr0 hw
  go_enter Try.func3, Try.ntmps3
  go_wp2_with (first | (go_at_call 6; (with_reducible refine (pleachlaw12_few.calls A0 c0 l0 true _ HR.out hc0 HF.out).mono ?_); rintro e w1 ⟨rfl, hb1⟩; have HB1 := Aside0.mk hb1; have HR1 := Aside0.mk (Kd.C_below HR.out hb1); clear hb1) | (go_at_call 8; (with_reducible refine (fan_Of.calls A0 c0 l0 (List.replicate 16 0) er _ HR1.out hc0 HO.out).mono ?_); rintro e w3 ⟨rfl, hb3⟩; have HB3 := Aside0.mk (below_step HB1.out hb3); have HR3 := Aside0.mk (Kd.C_below HR1.out hb3); clear hb3) | ((with_reducible refine gate_store (t := 26) (p := 5) (v := .tmp 18) rfl ?_); refine M.wp_arr_store rfl 26 _ _ rfl w3.heap.size 26 .i64 (List.replicate 16 0) (List.replicate 16 0) rfl rfl (fan_Of.new_ w3) rfl fan_Of.i26 ?_; intro w4 hA4 hF4 hB4 hz4; have HB4 := Aside0.mk (hB4 _ _ (below_size HB3.out) (below_alloc HB3.out _)); have HA4 := Aside0.mk hA4; have HR4 := Aside0.mk (Kd.C_below HR3.out (hB4 _ _ (Nat.le_refl _) (below_alloc (Below.refl _ _) _))); clear hA4 hF4 hB4 hz4) | (go_at_call 9; (with_reducible refine (pleachref12_Wrong.calls A0 c0 l0 er _ HR4.out hc0 HE.out).mono ?_); rintro e w5 ⟨rfl, ⟨nd, rfl⟩⟩) | (go_at_call 10; (with_reducible refine (fan_Check.calls A0 c0 l0 er _ (Kd.C_below HR4.out (pw_below_drewN (Below.refl _ _) _)) hc0 HC.out).mono ?_); rintro e w6 ⟨rfl, ⟨nd6, rfl⟩⟩) | ((with_reducible refine gate_dst (N := 32) rfl ?_); refine M.wp_arr_load rfl 26 _ rfl w3.heap.size 26 .i64 (List.replicate 16 0) rfl (M.arr_drewN HA4.out _) _ Try.underlying26 rfl fan_Of.i26 ?_; rw [← fan_Of.zeros]) | (go_at_call 7; (with_reducible refine (pleachlaw12_awake.calls true _ HW.out).mono ?_); rintro e w7 ⟨rfl, hb7⟩; have HB7 := Aside0.mk (below_step (pw_below_drewN HB4.out _) hb7); clear hb7))
  go_ret
  exact ⟨rfl, HB7.out⟩
set_option maxHeartbeats 16000000 in
set_option maxRecDepth 100000 in
theorem pleachlaw12_FanTells.in_ (A0 : Option Addr) (c0 : Nat) (l0 : List ByteArray) (k : Int) (w : World) (hr0 : Kd.C Kd.string w A0 l0.length l0) (hc0 : l0.length ≤ c0) (hf : pleachlaw12_few.f l0 = some true) (hl : l0.length ≤ 100) (hw : M.sumE none l0 = 0) (hk0 : -9223372036854775808 ≤ k) (hk1 : k ≤ 9223372036854775807) :
    Calls Try.prog 3 #[.slice A0 l0.length c0, .int .i64 k] w fun e w' => e = .returned (.bool true) ∧ Below w.heap.size w w' := by
  have HF := Aside0.mk hf
  have HR := Aside0.mk hr0
  have HW := Aside0.mk (show pleachlaw12_awake.f = some true from rfl)
  have HE : Aside0 (pleachref12_Wrong.f l0 = some 0) := ⟨by unfold pleachref12_Wrong.f; rw [if_pos (by omega), hw]⟩
  have HC : Aside0 (fan_Check.f l0 = some 0) := ⟨by unfold fan_Check.f; rw [if_pos (by omega), hw]⟩
  have HO : Aside0 (fan_Of.f l0 = some (M.fans l0 16, 0)) := ⟨by unfold fan_Of.f; rw [if_pos (by omega), if_pos hw]⟩
  have HU : Aside0 (∀ q : Int, pleachref12_Upto.f l0 q = some (M.upto l0 q : Int)) := ⟨fun q => by unfold pleachref12_Upto.f; rw [if_pos ⟨by omega, fun x hx => by have := ((M.sum_iff l0).1 hw).1 x hx; omega⟩]⟩
  have HXS : Aside0 (∀ i : Nat, i < 16 → (M.fans l0 16).getD i 0 = (M.upto l0 (i : Int) : Int)) := ⟨fun i hi => by rw [M.fans_get _ _ _ hi, if_pos hi]⟩
  have HLn := Aside0.mk (M.fans_len l0 16)
  have HBd : Aside0 (∀ x ∈ M.fans l0 16, 0 ≤ x ∧ x ≤ 4611686018427387903) := ⟨fun x hx => by
    obtain ⟨i, hi, rfl⟩ := List.getElem_of_mem hx
    have h16 := hi
    rw [M.fans_len] at h16
    have := M.fans_bd l0 16 i h16
    simp only [List.getD_eq_getElem?_getD, List.getElem?_eq_getElem hi, Option.getD_some] at this
    omega⟩
  have HPut : Aside0 (fan_Fan_Put.f (M.fans l0 16) = some (M.sb (fan_Fan_Put.bytes (M.fans l0 16)))) := ⟨by unfold fan_Fan_Put.f; rw [if_pos ⟨HLn.out, HBd.out⟩]⟩
  have HUL : Aside0 (∀ q : Int, M.upto l0 q ≤ 100) := ⟨fun q => Nat.le_trans (M.upto_le l0 q) hl⟩
  have HSp : Aside0 (fan_Fan_Span.f (M.fans l0 16) k = some (if 0 ≤ k ∧ k < 16 then ((M.upto l0 (k - 1) : Int), (M.upto l0 k : Int)) else (0, 0))) := ⟨by
    unfold fan_Fan_Span.f
    rw [if_pos (M.fans_len _ _)]
    by_cases hk : 0 ≤ k ∧ k < 16
    · obtain ⟨q, rfl⟩ := Int.eq_ofNat_of_zero_le hk.1
      rw [if_pos hk, if_pos hk, Int.toNat_natCast, M.fans_get l0 16 q (by omega), if_pos (show q < 16 by omega)]
      by_cases h0 : 0 < (q : Int)
      · rw [if_pos h0, M.fans_get l0 16 ((q : Int) - 1).toNat (by omega), if_pos (by omega), show (((q : Int) - 1).toNat : Int) = (q : Int) - 1 from by omega]
      · rw [if_neg h0, M.upto_neg l0 (k := (q : Int) - 1) (by omega)]; rfl
    · rw [if_neg hk, if_neg hk]⟩
  clear hf hr0 hw
  generalize M.fans l0 16 = xs at HO HXS HLn HBd HPut HSp
  go_enter Try.func3, Try.ntmps3
  go_wp2_with (first | (go_at_call 6; (with_reducible refine (pleachlaw12_few.calls A0 c0 l0 true _ HR.out hc0 HF.out).mono ?_); rintro e w1 ⟨rfl, hb1⟩; have HB1 := Aside0.mk hb1; have HR1 := Aside0.mk (Kd.C_below HR.out hb1); clear hb1) | (go_at_call 8; (with_reducible refine (fan_Of.calls A0 c0 l0 xs 0 _ HR1.out hc0 HO.out).mono ?_); rintro e w3 ⟨rfl, hb3⟩; have HB3 := Aside0.mk (below_step HB1.out hb3); have HR3 := Aside0.mk (Kd.C_below HR1.out hb3); clear hb3) | ((with_reducible refine gate_store (t := 26) (p := 5) (v := .tmp 18) rfl ?_); refine M.wp_arr_store rfl 26 _ _ rfl w3.heap.size 26 .i64 (List.replicate 16 0) xs rfl rfl (fan_Of.new_ w3) HLn.out fan_Of.i26 ?_; intro w4 hA4 hF4 hB4 hz4; have HB4 := Aside0.mk (hB4 _ _ (below_size HB3.out) (below_alloc HB3.out _)); have HA4 := Aside0.mk hA4; have HR4 := Aside0.mk (Kd.C_below HR3.out (hB4 _ _ (Nat.le_refl _) (below_alloc (Below.refl _ _) _))); clear hA4 hF4 hB4 hz4) | (go_at_call 9; (with_reducible refine (pleachref12_Wrong.calls A0 c0 l0 0 _ HR4.out hc0 HE.out).mono ?_); rintro e w5 ⟨rfl, ⟨nd, rfl⟩⟩) | (go_at_call 10; (with_reducible refine (fan_Check.calls A0 c0 l0 0 _ (Kd.C_below HR4.out (pw_below_drewN (Below.refl _ _) _)) hc0 HC.out).mono ?_); rintro e w6 ⟨rfl, ⟨nd6, rfl⟩⟩))
  have HG : Aside0 (w.heap.size ≤ w3.heap.size) := ⟨below_size HB3.out⟩
  go_loopw [7, 38] (fun v7 v38 wr => ∃ i : Nat, v38 = .int .i64 (i : Int) ∧ i ≤ 16 ∧ v7 = .string (M.sb (fan_Fan_Put.bytes (xs.take i))) ∧ Aside0 (M.arr wr w3.heap.size 26 .i64 xs) ∧ Aside0 (Below w.heap.size w wr) ∧ Aside0 (Kd.C Kd.string wr A0 l0.length l0)) (fun _ v38 _ => 16 - (intOf v38).toNat)
  case atStart => exact ⟨0, rfl, Nat.zero_le _, rfl, ⟨M.arr_drewN HA4.out _⟩, ⟨pw_below_drewN HB4.out _⟩, ⟨Kd.C_below HR4.out (pw_below_drewN (Below.refl _ _) _)⟩⟩
  case round =>
    clear HA4 HB4 HR4 HB3 HR3 HB1 HR1
    obtain ⟨i, rfl, hi, rfl, HA, HB, HRr⟩ := hrel
    by_cases hlt : i < 16
    · have hlt' : i < xs.length := by rw [HLn.out]; exact hlt
      have hxi := HXS.out i hlt
      have hup := HUL.out (i : Int)
      have HUi := Aside0.mk (HU.out (i : Int))
      have hb := fan_Fan_Put.bytes_le (xs.take i) (fun x hx => HBd.out x (List.mem_of_mem_take hx))
      have htl : (xs.take i).length ≤ i := List.length_take_le _ _
      have hge : xs.getD i 0 = xs[i] := by simp [List.getD, hlt']
      have HT := Aside0.mk (show M.sb (fan_Fan_Put.bytes (xs.take i)) ++ M.sb (M.vb xs[i].toNat) = M.sb (fan_Fan_Put.bytes (xs.take (i + 1))) from by
        rw [List.take_succ_eq_append_getElem hlt', fan_Fan_Put.bytes_app, ← M.sb_append]
        simp [fan_Fan_Put.bytes])
      rw [← hge, hxi, Int.toNat_natCast] at HT
      have hc := M.arr_cell HA.out i hlt'
      rw [hxi] at hc
      have hv := M.vb_le (M.upto l0 (i : Int)) (by omega)
      have HP : Aside0 (pleachref04_PutNum.f (M.upto l0 (i : Int) : Int) = some (M.sb (M.vb (M.upto l0 (i : Int))))) := ⟨by unfold pleachref04_PutNum.f; rw [if_pos (by omega), Int.toNat_natCast]⟩
      have hs1 : (M.sb (fan_Fan_Put.bytes (xs.take i))).size + (M.sb (M.vb (M.upto l0 (i : Int)))).size ≤ 9223372036854775807 := by rw [M.size_sb, M.size_sb]; omega
      have g1 : (0 : Int) ≤ (i : Int) := by omega
      have g2 : (i : Int) < 16 := by omega
      clear hb htl hv hxi hge
      generalize M.sb (fan_Fan_Put.bytes (xs.take i)) = acc at hs1 HT
      generalize M.sb (M.vb (M.upto l0 (i : Int))) = t at hs1 HT HP
      generalize M.upto l0 (i : Int) = x at HP hc HUi hup
      have c1 := eq_true hs1
      have c2 := decide_eq_true hs1
      have c3 : (9223372036854775807 < acc.size + t.size) = False := eq_false (Nat.not_lt.2 hs1)
      go_wp2
      go_region_with (first | (go_at_call 11; (with_reducible refine (pleachref12_Upto.calls A0 c0 l0 (i : Int) (x : Int) _ (Kd.C_below HRr.out (by repeat (first | (with_reducible first | exact Below.refl _ _ | apply below_alloc | apply pw_below_drewN | apply below_drew1)))) hc0 HUi.out).mono ?_); rintro e w7 ⟨rfl, ⟨nd7, rfl⟩⟩))
      all_goals
        go_wp2_with (first | (go_at_call 12; (with_reducible refine (pleachref04_PutNum.calls (x : Int) t _ HP.out).mono ?_); rintro e w8 ⟨rfl, hb8⟩; have HA8 := Aside0.mk (M.arr_below (M.arr_drewN HA.out _) hb8); have HB8 := Aside0.mk (below_step (pw_below_drewN HB.out _) hb8); have HR8 := Aside0.mk (Kd.C_below (Kd.C_below HRr.out (pw_below_drewN (Below.refl _ _) _)) hb8); clear hb8))
        go_roundw
        case rel => exact ⟨i + 1, by go_num, by omega, by rw [HT.out], HA8, HB8, HR8⟩
        case measure => simp [intOf]; omega
    · obtain rfl : i = 16 := by omega
      rw [show xs.take 16 = xs from List.take_of_length_le (Nat.le_of_eq HLn.out)]
      generalize M.sb (fan_Fan_Put.bytes xs) = bt_ at HPut
      have hbb : (bt_.toList == bt_.toList) = true := by simp
      have hsp := HSp.out
      by_cases hk : 0 ≤ k ∧ k < 16
      · rw [if_pos hk] at hsp
        have HS2 := Aside0.mk hsp
        have HU1 := Aside0.mk (HU.out (k - 1))
        have HU2 := Aside0.mk (HU.out k)
        have hu1 := HUL.out (k - 1)
        have hu2 := HUL.out k
        have k1 : decide (k < 0) = false := decide_eq_false (by omega)
        have k2 : decide (15 < k) = false := decide_eq_false (by omega)
        clear hsp
        generalize M.upto l0 (k - 1) = a at HS2 HU1 hu1
        generalize M.upto l0 k = b at HS2 HU2 hu2
        have kw : IntKind.i64.wrap (k - 1) = k - 1 := by simp [IntKind.wrap, IntKind.bits, IntKind.signed]; omega
        go_wp2_with (first | ((with_reducible refine gate_dst (N := 56) rfl ?_); (try (refine gate_guard (by rfl) ?_; dsimp only)); refine M.wp_arr_load rfl 26 _ rfl w3.heap.size 26 .i64 xs rfl HA.out _ Try.underlying26 rfl (by rw [HLn.out]; exact fan_Of.i26) ?_) | (go_at_call 13; (with_reducible refine (fan_Fan_Span.calls xs k (a : Int) (b : Int) _ HS2.out).mono ?_); rintro e w9 ⟨rfl, hb9⟩; have HA9 := Aside0.mk (M.arr_below HA.out hb9); have HB9 := Aside0.mk (below_step HB.out hb9); have HR9 := Aside0.mk (Kd.C_below HRr.out hb9); clear hb9) | (go_at_call 11; (with_reducible refine (pleachref12_Upto.calls A0 c0 l0 (k - 1) (a : Int) _ HR9.out hc0 HU1.out).mono ?_); rintro e w10 ⟨rfl, ⟨n10, rfl⟩⟩) | (go_at_call 11; (with_reducible refine (pleachref12_Upto.calls A0 c0 l0 k (b : Int) _ (Kd.C_below HR9.out (pw_below_drewN (Below.refl _ _) _)) hc0 HU2.out).mono ?_); rintro e w11 ⟨rfl, ⟨n11, rfl⟩⟩) | ((with_reducible refine gate_dst (N := 96) rfl ?_); (try (refine gate_guard (by rfl) ?_; dsimp only)); refine M.wp_arr_load rfl 26 _ rfl w3.heap.size 26 .i64 xs rfl (M.arr_drewN HA9.out _) _ Try.underlying26 rfl (by rw [HLn.out]; exact fan_Of.i26) ?_) | (go_at_call 14; (with_reducible refine (fan_Fan_Put.calls xs bt_ _ HPut.out).mono ?_); rintro e w12 ⟨rfl, hb12⟩; have HB12 := Aside0.mk (below_step (pw_below_drewN HB9.out _) hb12); clear hb12) | (go_at_call 7; (with_reducible refine (pleachlaw12_awake.calls true _ HW.out).mono ?_); rintro e w13 ⟨rfl, hb13⟩; have HB13 := Aside0.mk (below_step HB12.out hb13); clear hb13))
        go_ret
        exact ⟨rfl, HB13.out⟩
      · rw [if_neg hk] at hsp
        have HS2 := Aside0.mk hsp
        clear hsp
        by_cases hkn : k < 0
        all_goals
          first | have k1 : decide (k < 0) = true := decide_eq_true hkn | have k1 : decide (k < 0) = false := decide_eq_false hkn
          first | have k2 : decide (15 < k) = true := decide_eq_true (by omega) | have k2 : decide (15 < k) = false := decide_eq_false (by omega)
          go_wp2_with (first | ((with_reducible refine gate_dst (N := 56) rfl ?_); (try (refine gate_guard (by rfl) ?_; dsimp only)); refine M.wp_arr_load rfl 26 _ rfl w3.heap.size 26 .i64 xs rfl HA.out _ Try.underlying26 rfl (by rw [HLn.out]; exact fan_Of.i26) ?_) | (go_at_call 13; (with_reducible refine (fan_Fan_Span.calls xs k 0 0 _ HS2.out).mono ?_); rintro e w9 ⟨rfl, hb9⟩; have HA9 := Aside0.mk (M.arr_below HA.out hb9); have HB9 := Aside0.mk (below_step HB.out hb9); clear hb9) | ((with_reducible refine gate_dst (N := 74) rfl ?_); (try (refine gate_guard (by rfl) ?_; dsimp only)); refine M.wp_arr_load rfl 26 _ rfl w3.heap.size 26 .i64 xs rfl HA9.out _ Try.underlying26 rfl (by rw [HLn.out]; exact fan_Of.i26) ?_) | (go_at_call 14; (with_reducible refine (fan_Fan_Put.calls xs bt_ _ HPut.out).mono ?_); rintro e w12 ⟨rfl, hb12⟩; have HB12 := Aside0.mk (below_step HB9.out hb12); clear hb12) | (go_at_call 7; (with_reducible refine (pleachlaw12_awake.calls true _ HW.out).mono ?_); rintro e w13 ⟨rfl, hb13⟩; have HB13 := Aside0.mk (below_step HB12.out hb13); clear hb13))
          go_ret
          exact ⟨rfl, HB13.out⟩
theorem pleachlaw12_FanTells.calls (A0 : Option Addr) (c0 : Nat) (l0 : List ByteArray) (a1 : Int) (r : Bool) (w : World) (hr0 : Kd.C Kd.string w A0 l0.length l0) (hc0 : l0.length ≤ c0) (h : pleachlaw12_FanTells.f l0 a1 = some r) :
    Calls Try.prog 3 #[.slice A0 l0.length c0, .int .i64 a1] w fun e w' => e = .returned (.bool r) ∧ Below w.heap.size w w' := by
  unfold pleachlaw12_FanTells.f at h
  split at h
  case isFalse => cases h
  case isTrue hk =>
    obtain rfl := Option.some.inj h
    obtain ⟨b, hb, hl⟩ := pleachlaw12_FanTells.few_ l0
    cases b with
    | false => exact pleachlaw12_FanTells.out1 A0 c0 l0 a1 w hr0 hc0 hb
    | true =>
      by_cases hw : M.sumE none l0 = 0
      · exact pleachlaw12_FanTells.in_ A0 c0 l0 a1 w hr0 hc0 hb (hl rfl) hw hk.1 hk.2
      · exact pleachlaw12_FanTells.out2 A0 c0 l0 a1 w hr0 hc0 hb (hl rfl) hw

/-- THE ONE PURE STATEMENT of pleachlaw12_FanTells: this session's form. -/
def pleachlaw12_FanTells.Pure : Prop := ∀ (l0 : List ByteArray) (a1 : Int), ((∀ y ∈ l0, y.size ≤ 9223372036854775807) ∧ l0.length ≤ 9223372036854775807) → ((Lit.int .i64 a1).wf = true) → pleachlaw12_FanTells.f l0 a1 = some true
end Go.Proofs.Ytbjcpdeinmlbhaa.EFanTells
