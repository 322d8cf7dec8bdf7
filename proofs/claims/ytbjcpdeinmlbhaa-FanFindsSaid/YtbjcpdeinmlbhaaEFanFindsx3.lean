-- Written by this session's own program (wip/tools/ext.py) for this claim; Lean checks it.
import Derived.Test.YtbjcpdeinmlbhaaEFanFindsx0
import Derived.Test.YtbjcpdeinmlbhaaEFanFindsx1
import Derived.Test.YtbjcpdeinmlbhaaEFanFindsx2
namespace Go.Proofs.Ytbjcpdeinmlbhaa.EFanFinds
open Go.RowKit Go.Proofs.YtbjcpdeinmlbhaaW.PrintWords Go.Proofs.YtbjcpdeinmlbhaaW.PrintLast Go.Proofs.YtbjcpdeinmlbhaaW.PrintMore
attribute [local go_sem] M.run_leq M.run_gtr M.run_geq max2_int min2_int max_two min_two max_three min_three max_four min_four   -- for this text's walks alone
set_option linter.unusedVariables false
set_option linter.unusedSimpArgs false

/-! ### pleachlaw12_FanFinds: function 4 -/
def pleachlaw12_FanFinds.f (l : List ByteArray) (s : ByteArray) : Option Bool := some true
theorem pleachlaw12_FanFinds.few_ (l : List ByteArray) : ∃ b, pleachlaw12_few.f l = some b ∧ (b = true → l.length ≤ 100) := by
  unfold pleachlaw12_few.f
  by_cases h : (l.length : Int) ≤ 100
  · rw [if_pos h]
    unfold pleachplain_Bytes.f
    rw [if_pos (by omega), Option.bind_some]
    exact ⟨_, rfl, fun _ => by omega⟩
  · rw [if_neg h]
    exact ⟨_, rfl, fun z => by cases z⟩
set_option maxHeartbeats 8000000 in
set_option maxRecDepth 100000 in
theorem pleachlaw12_FanFinds.out1 (A0 : Option Addr) (c0 : Nat) (l0 : List ByteArray) (s : ByteArray) (w : World) (hr0 : Kd.C Kd.string w A0 l0.length l0) (hc0 : l0.length ≤ c0) (hf : pleachlaw12_few.f l0 = some false) :
    Calls Try.prog 4 #[.slice A0 l0.length c0, .string s] w fun e w' => e = .returned (.bool true) ∧ Below w.heap.size w w' := by
  have HF := Aside0.mk hf
  have HR := Aside0.mk hr0
  have HW := Aside0.mk (show pleachlaw12_awake.f = some true from rfl)
  clear hf hr0
  go_enter Try.func4, Try.ntmps4
  go_wp2_with (first | (go_at_call 6; (with_reducible refine (pleachlaw12_few.calls A0 c0 l0 false _ HR.out hc0 HF.out).mono ?_); rintro e w1 ⟨rfl, hb1⟩; have HB1 := Aside0.mk hb1; clear hb1) | (go_at_call 7; (with_reducible refine (pleachlaw12_awake.calls true _ HW.out).mono ?_); rintro e w2 ⟨rfl, hb2⟩; have HB2 := Aside0.mk (below_step HB1.out hb2); clear hb2))
  go_ret
  exact ⟨rfl, HB2.out⟩
set_option maxHeartbeats 8000000 in
set_option maxRecDepth 100000 in
theorem pleachlaw12_FanFinds.out2 (A0 : Option Addr) (c0 : Nat) (l0 : List ByteArray) (s : ByteArray) (w : World) (hr0 : Kd.C Kd.string w A0 l0.length l0) (hc0 : l0.length ≤ c0) (hf : pleachlaw12_few.f l0 = some true) (hs : (s.size : Int) > 1000) :
    Calls Try.prog 4 #[.slice A0 l0.length c0, .string s] w fun e w' => e = .returned (.bool true) ∧ Below w.heap.size w w' := by
  have HF := Aside0.mk hf
  have HR := Aside0.mk hr0
  have HW := Aside0.mk (show pleachlaw12_awake.f = some true from rfl)
  have d1 : decide ((1000 : Int) < (s.size : Int)) = true := decide_eq_true hs
  clear hf hr0
  go_enter Try.func4, Try.ntmps4
  go_wp2_with (first | (go_at_call 6; (with_reducible refine (pleachlaw12_few.calls A0 c0 l0 true _ HR.out hc0 HF.out).mono ?_); rintro e w1 ⟨rfl, hb1⟩; have HB1 := Aside0.mk hb1; clear hb1) | (go_at_call 7; (with_reducible refine (pleachlaw12_awake.calls true _ HW.out).mono ?_); rintro e w2 ⟨rfl, hb2⟩; have HB2 := Aside0.mk (below_step HB1.out hb2); clear hb2))
  go_ret
  exact ⟨rfl, HB2.out⟩
set_option maxHeartbeats 8000000 in
set_option maxRecDepth 100000 in
theorem pleachlaw12_FanFinds.out3 (A0 : Option Addr) (c0 : Nat) (l0 : List ByteArray) (s : ByteArray) (w : World) (hr0 : Kd.C Kd.string w A0 l0.length l0) (hc0 : l0.length ≤ c0) (hf : pleachlaw12_few.f l0 = some true) (hs : ¬ (s.size : Int) > 1000) (hl : l0.length ≤ 100) (hw : M.sumE none l0 ≠ 0) :
    Calls Try.prog 4 #[.slice A0 l0.length c0, .string s] w fun e w' => e = .returned (.bool true) ∧ Below w.heap.size w w' := by
  have HF := Aside0.mk hf
  have HR := Aside0.mk hr0
  have HW := Aside0.mk (show pleachlaw12_awake.f = some true from rfl)
  have HE : Aside0 (pleachref12_Wrong.f l0 = some (M.sumE none l0)) := ⟨by unfold pleachref12_Wrong.f; rw [if_pos (by omega)]⟩
  have d1 : decide ((1000 : Int) < (s.size : Int)) = false := decide_eq_false hs
  generalize M.sumE none l0 = er at hw HE
  have t1 : (er != 0) = true := bne_iff_ne.2 hw
  have t2 : (er == 0) = false := beq_eq_false_iff_ne.2 hw
  clear hf hr0 hw
  go_enter Try.func4, Try.ntmps4
  go_wp2_with (first | (go_at_call 6; (with_reducible refine (pleachlaw12_few.calls A0 c0 l0 true _ HR.out hc0 HF.out).mono ?_); rintro e w1 ⟨rfl, hb1⟩; have HB1 := Aside0.mk hb1; have HR1 := Aside0.mk (Kd.C_below HR.out hb1); clear hb1) | (go_at_call 9; (with_reducible refine (pleachref12_Wrong.calls A0 c0 l0 er _ HR1.out hc0 HE.out).mono ?_); rintro e w2 ⟨rfl, ⟨nd, rfl⟩⟩) | (go_at_call 7; (with_reducible refine (pleachlaw12_awake.calls true _ HW.out).mono ?_); rintro e w2 ⟨rfl, hb2⟩; have HB2 := Aside0.mk (below_step (pw_below_drewN HB1.out _) hb2); clear hb2))
  go_ret
  exact ⟨rfl, HB2.out⟩
set_option maxHeartbeats 8000000 in
set_option maxRecDepth 100000 in
theorem pleachlaw12_FanFinds.in_ (A0 : Option Addr) (c0 : Nat) (l0 : List ByteArray) (s : ByteArray) (w : World) (hr0 : Kd.C Kd.string w A0 l0.length l0) (hc0 : l0.length ≤ c0) (hf : pleachlaw12_few.f l0 = some true) (hs : ¬ (s.size : Int) > 1000) (hl : l0.length ≤ 100) (hw : M.sumE none l0 = 0)
    (at_ want : Int) (ok : Bool) (he : fan_Fan_Find.f (M.fans l0 16) l0 s = some (at_, ok)) (ha : pleachref12_At.f l0 s = some want) (hh : (ok = true ∧ 0 ≤ want ∧ at_ = want) ∨ (ok = false ∧ want < 0 ∧ at_ = 0)) :
    Calls Try.prog 4 #[.slice A0 l0.length c0, .string s] w fun e w' => e = .returned (.bool true) ∧ Below w.heap.size w w' := by
  have hat : at_ = if ok = true then want else 0 := by rcases hh with ⟨rfl, _, h⟩ | ⟨rfl, _, h⟩ <;> simpa using h
  rw [hat] at he
  have hh : (ok = true ∧ 0 ≤ want) ∨ (ok = false ∧ want < 0) := by rcases hh with ⟨h, h2, _⟩ | ⟨h, h2, _⟩ <;> simp [h, h2]
  clear hat
  have HF := Aside0.mk hf
  have HR := Aside0.mk hr0
  have HW := Aside0.mk (show pleachlaw12_awake.f = some true from rfl)
  have HE : Aside0 (pleachref12_Wrong.f l0 = some 0) := ⟨by unfold pleachref12_Wrong.f; rw [if_pos (by omega), hw]⟩
  have HO : Aside0 (fan_Of.f l0 = some (M.fans l0 16, 0)) := ⟨by unfold fan_Of.f; rw [if_pos (by omega), if_pos hw]⟩
  have HAt := Aside0.mk ha
  have HLn := Aside0.mk (M.fans_len l0 16)
  have d1 : decide ((1000 : Int) < (s.size : Int)) = false := decide_eq_false hs
  clear hf hr0 hw ha
  generalize M.fans l0 16 = xs at HO he HLn
  rcases hh with ⟨rfl, hw0⟩ | ⟨rfl, hw0⟩
  all_goals
    first | rw [if_pos rfl] at he | rw [if_neg (by simp)] at he
    have HFi := Aside0.mk he
    clear he
    first | have m1 : decide (0 ≤ want) = true := decide_eq_true hw0 | have m1 : decide (0 ≤ want) = false := decide_eq_false (by omega)
    go_enter Try.func4, Try.ntmps4
    go_wp2_with (first | (go_at_call 6; (with_reducible refine (pleachlaw12_few.calls A0 c0 l0 true _ HR.out hc0 HF.out).mono ?_); rintro e w1 ⟨rfl, hb1⟩; have HB1 := Aside0.mk hb1; have HR1 := Aside0.mk (Kd.C_below HR.out hb1); clear hb1) | (go_at_call 9; (with_reducible refine (pleachref12_Wrong.calls A0 c0 l0 0 _ HR1.out hc0 HE.out).mono ?_); rintro e w2 ⟨rfl, ⟨nd, rfl⟩⟩) | (go_at_call 8; (with_reducible refine (fan_Of.calls A0 c0 l0 xs 0 _ (Kd.C_below HR1.out (pw_below_drewN (Below.refl _ _) _)) hc0 HO.out).mono ?_); rintro e w3 ⟨rfl, hb3⟩; have HB3 := Aside0.mk (below_step (pw_below_drewN HB1.out _) hb3); have HR3 := Aside0.mk (Kd.C_below (Kd.C_below HR1.out (pw_below_drewN (Below.refl _ _) _)) hb3); clear hb3) | ((with_reducible refine gate_store (t := 26) (p := 5) (v := .tmp 27) rfl ?_); refine M.wp_arr_store rfl 26 _ _ rfl w3.heap.size 26 .i64 (List.replicate 16 0) xs rfl rfl (fan_Of.new_ w3) HLn.out fan_Of.i26 ?_; intro w4 hA4 hF4 hB4 hz4; have HB4 := Aside0.mk (hB4 _ _ (below_size HB3.out) (below_alloc HB3.out _)); have HA4 := Aside0.mk hA4; have HR4 := Aside0.mk (Kd.C_below HR3.out (hB4 _ _ (Nat.le_refl _) (below_alloc (Below.refl _ _) _))); clear hA4 hF4 hB4 hz4) | ((with_reducible refine gate_dst (N := 30) rfl ?_); refine M.wp_arr_load rfl 26 _ rfl w3.heap.size 26 .i64 xs rfl HA4.out _ Try.underlying26 rfl (by rw [HLn.out]; exact fan_Of.i26) ?_) | (go_at_call 15; (with_reducible refine (fan_Fan_Find.calls xs A0 c0 l0 s _ _ _ HR4.out hc0 HFi.out).mono ?_); rintro e w5 ⟨rfl, hb5⟩; have HB5 := Aside0.mk (below_step HB4.out hb5); have HR5 := Aside0.mk (Kd.C_below HR4.out hb5); clear hb5) | (go_at_call 16; (with_reducible refine (pleachref12_At.calls A0 c0 l0 s want _ HR5.out hc0 HAt.out).mono ?_); rintro e w6 ⟨rfl, ⟨nd6, rfl⟩⟩) | (go_at_call 7; (with_reducible refine (pleachlaw12_awake.calls true _ HW.out).mono ?_); rintro e w7 ⟨rfl, hb7⟩; have HB7 := Aside0.mk (below_step (pw_below_drewN HB5.out _) hb7); clear hb7))
    go_ret
    exact ⟨rfl, HB7.out⟩
theorem pleachlaw12_FanFinds.calls (A0 : Option Addr) (c0 : Nat) (l0 : List ByteArray) (a1 : ByteArray) (r : Bool) (w : World) (hr0 : Kd.C Kd.string w A0 l0.length l0) (hc0 : l0.length ≤ c0) (h : pleachlaw12_FanFinds.f l0 a1 = some r) :
    Calls Try.prog 4 #[.slice A0 l0.length c0, .string a1] w fun e w' => e = .returned (.bool r) ∧ Below w.heap.size w w' := by
  obtain rfl := Option.some.inj h
  obtain ⟨b, hb, hl⟩ := pleachlaw12_FanFinds.few_ l0
  cases b with
  | false => exact pleachlaw12_FanFinds.out1 A0 c0 l0 a1 w hr0 hc0 hb
  | true =>
    have hl := hl rfl
    by_cases hs : (a1.size : Int) > 1000
    · exact pleachlaw12_FanFinds.out2 A0 c0 l0 a1 w hr0 hc0 hb hs
    · by_cases hw : M.sumE none l0 = 0
      · have ha : pleachref12_At.f l0 a1 = some (M.fst 0 l0 a1) := by unfold pleachref12_At.f; rw [if_pos (by omega)]
        obtain ⟨h32, hr⟩ := (M.sum_iff l0).1 hw
        by_cases hm : a1 ∈ l0
        · obtain ⟨i, hi, hli⟩ := List.getElem_of_mem hm
          refine pleachlaw12_FanFinds.in_ A0 c0 l0 a1 w hr0 hc0 hb hs hl hw _ _ _ (fan_Fan_Find.there l0 a1 hr h32 (by omega) hm) ha (.inl ⟨rfl, ?_, rfl⟩)
          rw [M.fst_at l0 0 a1 i hi (M.rises_ne hr) hli]; omega
        · refine pleachlaw12_FanFinds.in_ A0 c0 l0 a1 w hr0 hc0 hb hs hl hw _ _ _ (fan_Fan_Find.away (M.fans l0 16) l0 a1 (M.fans_len _ _) hr (by omega) (by omega) hm) ha (.inr ⟨rfl, ?_, rfl⟩)
          rw [M.fst_no l0 0 a1 hm]; decide
      · exact pleachlaw12_FanFinds.out3 A0 c0 l0 a1 w hr0 hc0 hb hs hl hw

/-- THE ONE PURE STATEMENT of pleachlaw12_FanFinds: this session's form. -/
def pleachlaw12_FanFinds.Pure : Prop := ∀ (l0 : List ByteArray) (a1 : ByteArray), ((∀ y ∈ l0, y.size ≤ 9223372036854775807) ∧ l0.length ≤ 9223372036854775807) → (a1.size ≤ 140737488351232) → pleachlaw12_FanFinds.f l0 a1 = some true
end Go.Proofs.Ytbjcpdeinmlbhaa.EFanFinds
