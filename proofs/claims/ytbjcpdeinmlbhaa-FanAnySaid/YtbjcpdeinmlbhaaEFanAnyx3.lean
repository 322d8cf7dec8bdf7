-- Written by this session's own program (wip/tools/ext.py) for this claim; Lean checks it.
import Derived.Test.YtbjcpdeinmlbhaaEFanAnyx0
import Derived.Test.YtbjcpdeinmlbhaaEFanAnyx1
import Derived.Test.YtbjcpdeinmlbhaaEFanAnyx2
namespace Go.Proofs.Ytbjcpdeinmlbhaa.EFanAny
open Go.RowKit Go.Proofs.YtbjcpdeinmlbhaaW.PrintWords Go.Proofs.YtbjcpdeinmlbhaaW.PrintLast Go.Proofs.YtbjcpdeinmlbhaaW.PrintMore
attribute [local go_sem] M.run_leq M.run_gtr M.run_geq max2_int min2_int max_two min_two max_three min_three max_four min_four   -- for this text's walks alone
set_option linter.unusedVariables false
set_option linter.unusedSimpArgs false

/-! ### pleachlaw12_FanAny: function 5 -/
def pleachlaw12_FanAny.f (xs : List Int) (l : List ByteArray) (s : ByteArray) : Option Bool := if xs.length = 16 then some true else none
theorem pleachlaw12_FanAny.few_ (l : List ByteArray) : ∃ b, pleachlaw12_few.f l = some b ∧ (b = true → l.length ≤ 100) := by
  unfold pleachlaw12_few.f
  by_cases h : (l.length : Int) ≤ 100
  · rw [if_pos h]
    unfold pleachplain_Bytes.f
    rw [if_pos (by omega), Option.bind_some]
    exact ⟨_, rfl, fun _ => by omega⟩
  · rw [if_neg h]
    exact ⟨_, rfl, fun z => by cases z⟩
set_option maxHeartbeats 8000000 in
set_option maxRecDepth 100000 in
theorem pleachlaw12_FanAny.out1 (xs : List Int) (A0 : Option Addr) (c0 : Nat) (l0 : List ByteArray) (s : ByteArray) (w : World) (hr0 : Kd.C Kd.string w A0 l0.length l0) (hc0 : l0.length ≤ c0) (hf : pleachlaw12_few.f l0 = some false) :
    Calls Try.prog 5 #[.agg (nums .i64 xs).toArray, .slice A0 l0.length c0, .string s] w fun e w' => e = .returned (.bool true) ∧ Below w.heap.size w w' := by
  have HF := Aside0.mk hf
  have HR := Aside0.mk hr0
  have HW := Aside0.mk (show pleachlaw12_awake.f = some true from rfl)
  clear hf hr0
  go_enter Try.func5, Try.ntmps5
  go_wp2_with (first | ((with_reducible refine gate_dst (N := 3) rfl ?_); refine box_event ?hg (N := 3) ?hd (cs := (nums .i64 xs).toArray) (t := 26) ?hr ?_; (case hd => rfl); (case hg => rfl); (case hr => first | (go_simp; done) | (go_simp; rfl)); intro gb hg wb hbox hbb; subst hg; have HAb := Aside0.mk (show M.arr wb w.heap.size 26 .i64 xs from hbox); have HBb := Aside0.mk hbb; have HRb := Aside0.mk (Kd.C_below HR.out hbb); clear hbb hbox) | (go_at_call 6; (with_reducible refine (pleachlaw12_few.calls A0 c0 l0 false _ HRb.out hc0 HF.out).mono ?_); rintro e w1 ⟨rfl, hb1⟩; have HB1 := Aside0.mk (below_step HBb.out hb1); clear hb1) | (go_at_call 7; (with_reducible refine (pleachlaw12_awake.calls true _ HW.out).mono ?_); rintro e w2 ⟨rfl, hb2⟩; have HB2 := Aside0.mk (below_step HB1.out hb2); clear hb2))
  go_ret
  exact ⟨rfl, HB2.out⟩
set_option maxHeartbeats 8000000 in
set_option maxRecDepth 100000 in
theorem pleachlaw12_FanAny.out2 (xs : List Int) (A0 : Option Addr) (c0 : Nat) (l0 : List ByteArray) (s : ByteArray) (w : World) (hr0 : Kd.C Kd.string w A0 l0.length l0) (hc0 : l0.length ≤ c0) (hf : pleachlaw12_few.f l0 = some true) (hs : (s.size : Int) > 1000) :
    Calls Try.prog 5 #[.agg (nums .i64 xs).toArray, .slice A0 l0.length c0, .string s] w fun e w' => e = .returned (.bool true) ∧ Below w.heap.size w w' := by
  have HF := Aside0.mk hf
  have HR := Aside0.mk hr0
  have HW := Aside0.mk (show pleachlaw12_awake.f = some true from rfl)
  have d1 : decide ((1000 : Int) < (s.size : Int)) = true := decide_eq_true hs
  clear hf hr0
  go_enter Try.func5, Try.ntmps5
  go_wp2_with (first | ((with_reducible refine gate_dst (N := 3) rfl ?_); refine box_event ?hg (N := 3) ?hd (cs := (nums .i64 xs).toArray) (t := 26) ?hr ?_; (case hd => rfl); (case hg => rfl); (case hr => first | (go_simp; done) | (go_simp; rfl)); intro gb hg wb hbox hbb; subst hg; have HAb := Aside0.mk (show M.arr wb w.heap.size 26 .i64 xs from hbox); have HBb := Aside0.mk hbb; have HRb := Aside0.mk (Kd.C_below HR.out hbb); clear hbb hbox) | (go_at_call 6; (with_reducible refine (pleachlaw12_few.calls A0 c0 l0 true _ HRb.out hc0 HF.out).mono ?_); rintro e w1 ⟨rfl, hb1⟩; have HB1 := Aside0.mk (below_step HBb.out hb1); clear hb1) | (go_at_call 7; (with_reducible refine (pleachlaw12_awake.calls true _ HW.out).mono ?_); rintro e w2 ⟨rfl, hb2⟩; have HB2 := Aside0.mk (below_step HB1.out hb2); clear hb2))
  go_ret
  exact ⟨rfl, HB2.out⟩
set_option maxHeartbeats 8000000 in
set_option maxRecDepth 100000 in
theorem pleachlaw12_FanAny.out3 (xs : List Int) (A0 : Option Addr) (c0 : Nat) (l0 : List ByteArray) (s : ByteArray) (w : World) (hr0 : Kd.C Kd.string w A0 l0.length l0) (hc0 : l0.length ≤ c0) (hf : pleachlaw12_few.f l0 = some true) (hs : ¬ (s.size : Int) > 1000) (hl : l0.length ≤ 100) (hw : M.sumE none l0 ≠ 0) :
    Calls Try.prog 5 #[.agg (nums .i64 xs).toArray, .slice A0 l0.length c0, .string s] w fun e w' => e = .returned (.bool true) ∧ Below w.heap.size w w' := by
  have HF := Aside0.mk hf
  have HR := Aside0.mk hr0
  have HW := Aside0.mk (show pleachlaw12_awake.f = some true from rfl)
  have HE : Aside0 (pleachref12_Wrong.f l0 = some (M.sumE none l0)) := ⟨by unfold pleachref12_Wrong.f; rw [if_pos (by omega)]⟩
  have d1 : decide ((1000 : Int) < (s.size : Int)) = false := decide_eq_false hs
  generalize M.sumE none l0 = er at hw HE
  have t1 : (er != 0) = true := bne_iff_ne.2 hw
  have t2 : (er == 0) = false := beq_eq_false_iff_ne.2 hw
  clear hf hr0 hw
  go_enter Try.func5, Try.ntmps5
  go_wp2_with (first | ((with_reducible refine gate_dst (N := 3) rfl ?_); refine box_event ?hg (N := 3) ?hd (cs := (nums .i64 xs).toArray) (t := 26) ?hr ?_; (case hd => rfl); (case hg => rfl); (case hr => first | (go_simp; done) | (go_simp; rfl)); intro gb hg wb hbox hbb; subst hg; have HAb := Aside0.mk (show M.arr wb w.heap.size 26 .i64 xs from hbox); have HBb := Aside0.mk hbb; have HRb := Aside0.mk (Kd.C_below HR.out hbb); clear hbb hbox) | (go_at_call 6; (with_reducible refine (pleachlaw12_few.calls A0 c0 l0 true _ HRb.out hc0 HF.out).mono ?_); rintro e w1 ⟨rfl, hb1⟩; have HB1 := Aside0.mk (below_step HBb.out hb1); have HR1 := Aside0.mk (Kd.C_below HRb.out hb1); have HA1 := Aside0.mk (M.arr_below HAb.out hb1); clear hb1) | (go_at_call 9; (with_reducible refine (pleachref12_Wrong.calls A0 c0 l0 er _ HR1.out hc0 HE.out).mono ?_); rintro e w2 ⟨rfl, ⟨nd, rfl⟩⟩) | (go_at_call 7; (with_reducible refine (pleachlaw12_awake.calls true _ HW.out).mono ?_); rintro e w2 ⟨rfl, hb2⟩; have HB2 := Aside0.mk (below_step (pw_below_drewN HB1.out _) hb2); clear hb2))
  go_ret
  exact ⟨rfl, HB2.out⟩
set_option maxHeartbeats 8000000 in
set_option maxRecDepth 100000 in
theorem pleachlaw12_FanAny.in_ (xs : List Int) (hx : xs.length = 16) (A0 : Option Addr) (c0 : Nat) (l0 : List ByteArray) (s : ByteArray) (w : World) (hr0 : Kd.C Kd.string w A0 l0.length l0) (hc0 : l0.length ≤ c0) (hf : pleachlaw12_few.f l0 = some true) (hs : ¬ (s.size : Int) > 1000) (hl : l0.length ≤ 100) (hw : M.sumE none l0 = 0)
    (at_ want : Int) (ok : Bool) (he : fan_Fan_Find.f xs l0 s = some (at_, ok)) (ha : pleachref12_At.f l0 s = some want) (hh : (ok = false ∧ at_ = 0) ∨ (ok = true ∧ at_ = want)) :
    Calls Try.prog 5 #[.agg (nums .i64 xs).toArray, .slice A0 l0.length c0, .string s] w fun e w' => e = .returned (.bool true) ∧ Below w.heap.size w w' := by
  have hat : at_ = if ok = true then want else 0 := by rcases hh with ⟨rfl, h⟩ | ⟨rfl, h⟩ <;> simpa using h
  rw [hat] at he
  clear hat hh
  have HF := Aside0.mk hf
  have HR := Aside0.mk hr0
  have HW := Aside0.mk (show pleachlaw12_awake.f = some true from rfl)
  have HE : Aside0 (pleachref12_Wrong.f l0 = some 0) := ⟨by unfold pleachref12_Wrong.f; rw [if_pos (by omega), hw]⟩
  have HAt := Aside0.mk ha
  have HLn := Aside0.mk hx
  have d1 : decide ((1000 : Int) < (s.size : Int)) = false := decide_eq_false hs
  have q1 : (want == want) = true := by simp
  clear hf hr0 hw ha hx
  cases ok
  all_goals
    first | rw [if_pos rfl] at he | rw [if_neg (by simp)] at he
    have HFi := Aside0.mk he
    clear he
    go_enter Try.func5, Try.ntmps5
    go_wp2_with (first | ((with_reducible refine gate_dst (N := 3) rfl ?_); refine box_event ?hg (N := 3) ?hd (cs := (nums .i64 xs).toArray) (t := 26) ?hr ?_; (case hd => rfl); (case hg => rfl); (case hr => first | (go_simp; done) | (go_simp; rfl)); intro gb hg wb hbox hbb; subst hg; have HAb := Aside0.mk (show M.arr wb w.heap.size 26 .i64 xs from hbox); have HBb := Aside0.mk hbb; have HRb := Aside0.mk (Kd.C_below HR.out hbb); clear hbb hbox) | (go_at_call 6; (with_reducible refine (pleachlaw12_few.calls A0 c0 l0 true _ HRb.out hc0 HF.out).mono ?_); rintro e w1 ⟨rfl, hb1⟩; have HB1 := Aside0.mk (below_step HBb.out hb1); have HR1 := Aside0.mk (Kd.C_below HRb.out hb1); have HA1 := Aside0.mk (M.arr_below HAb.out hb1); clear hb1) | (go_at_call 9; (with_reducible refine (pleachref12_Wrong.calls A0 c0 l0 0 _ HR1.out hc0 HE.out).mono ?_); rintro e w2 ⟨rfl, ⟨nd, rfl⟩⟩) | ((with_reducible refine gate_dst (N := 25) rfl ?_); refine M.wp_arr_load rfl 26 _ rfl w.heap.size 26 .i64 xs rfl (M.arr_drewN HA1.out _) _ Try.underlying26 rfl (by rw [HLn.out]; exact fan_Of.i26) ?_) | (go_at_call 15; (with_reducible refine (fan_Fan_Find.calls xs A0 c0 l0 s _ _ _ (Kd.C_below HR1.out (pw_below_drewN (Below.refl _ _) _)) hc0 HFi.out).mono ?_); rintro e w5 ⟨rfl, hb5⟩; have HB5 := Aside0.mk (below_step (pw_below_drewN HB1.out _) hb5); have HR5 := Aside0.mk (Kd.C_below (Kd.C_below HR1.out (pw_below_drewN (Below.refl _ _) _)) hb5); clear hb5) | (go_at_call 16; (with_reducible refine (pleachref12_At.calls A0 c0 l0 s want _ HR5.out hc0 HAt.out).mono ?_); rintro e w6 ⟨rfl, ⟨nd6, rfl⟩⟩) | (go_at_call 7; (with_reducible refine (pleachlaw12_awake.calls true _ HW.out).mono ?_); rintro e w7 ⟨rfl, hb7⟩; have HB7 := Aside0.mk (below_step (pw_below_drewN HB5.out _) hb7); clear hb7))
    go_ret
    exact ⟨rfl, HB7.out⟩
theorem pleachlaw12_FanAny.calls (a0 : List Int) (A1 : Option Addr) (c1 : Nat) (l1 : List ByteArray) (a2 : ByteArray) (r : Bool) (w : World) (hr1 : Kd.C Kd.string w A1 l1.length l1) (hc1 : l1.length ≤ c1) (h : pleachlaw12_FanAny.f a0 l1 a2 = some r) :
    Calls Try.prog 5 #[.agg (nums .i64 a0).toArray, .slice A1 l1.length c1, .string a2] w fun e w' => e = .returned (.bool r) ∧ Below w.heap.size w w' := by
  unfold pleachlaw12_FanAny.f at h
  split at h
  case isFalse => cases h
  case isTrue hx =>
    obtain rfl := Option.some.inj h
    obtain ⟨b, hb, hl⟩ := pleachlaw12_FanAny.few_ l1
    cases b with
    | false => exact pleachlaw12_FanAny.out1 a0 A1 c1 l1 a2 w hr1 hc1 hb
    | true =>
      have hl := hl rfl
      by_cases hs : (a2.size : Int) > 1000
      · exact pleachlaw12_FanAny.out2 a0 A1 c1 l1 a2 w hr1 hc1 hb hs
      · by_cases hw : M.sumE none l1 = 0
        · have ha : pleachref12_At.f l1 a2 = some (M.fst 0 l1 a2) := by unfold pleachref12_At.f; rw [if_pos (by omega)]
          obtain ⟨h32, hr⟩ := (M.sum_iff l1).1 hw
          obtain ⟨at_, ok, he, hh⟩ := fan_Fan_Find.any_ a0 l1 a2 hx hr (by omega) (by omega)
          refine pleachlaw12_FanAny.in_ a0 hx A1 c1 l1 a2 w hr1 hc1 hb hs hl hw at_ (M.fst 0 l1 a2) ok he ha ?_
          rcases hh with ⟨h1, h2⟩ | ⟨h1, h2, _⟩
          · exact .inl ⟨h1, h2⟩
          · exact .inr ⟨h1, h2⟩
        · exact pleachlaw12_FanAny.out3 a0 A1 c1 l1 a2 w hr1 hc1 hb hs hl hw

/-- THE ONE PURE STATEMENT of pleachlaw12_FanAny: this session's form. -/
def pleachlaw12_FanAny.Pure : Prop := ∀ (a0 : List Int) (l1 : List ByteArray) (a2 : ByteArray), (a0.length = 16 ∧ ∀ x ∈ a0, (Lit.int .i64 x).wf = true) → ((∀ y ∈ l1, y.size ≤ 9223372036854775807) ∧ l1.length ≤ 9223372036854775807) → (a2.size ≤ 140737488351232) → pleachlaw12_FanAny.f a0 l1 a2 = some true
end Go.Proofs.Ytbjcpdeinmlbhaa.EFanAny
