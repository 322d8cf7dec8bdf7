-- Written by this session's own program (wip/tools/ext.py) for this claim; Lean checks it.
import Derived.Test.YtikdbklmhjlfoaaDoorECommitPutsx0
import Derived.Test.YtikdbklmhjlfoaaDoorECommitPutsx1
import Derived.Test.YtikdbklmhjlfoaaDoorECommitPutsx2
namespace Go.Proofs.YtikdbklmhjlfoaaDoor.ECommitPuts
open Go.RowKit Go.Proofs.YtikdbklmhjlfoaaDoorW.PrintWords Go.Proofs.YtikdbklmhjlfoaaDoorW.PrintLast Go.Proofs.YtikdbklmhjlfoaaDoorW.PrintMore
attribute [local go_sem] M.run_leq M.run_gtr M.run_geq max2_int min2_int max_two min_two max_three min_three max_four min_four   -- for this text's walks alone
set_option linter.unusedVariables false
set_option linter.unusedSimpArgs false

/-! ### scan_Scan_Fix_p: function 33 -/
def scan_Scan_Fix_p.f (s0_0 : ByteArray) (s0_1 : Int) (s0_2 : Int) (s0_3 : Bool) (a1 : Int) : Option (ByteArray × ByteArray × Int × Int × Bool) := (scan_Scan_take.f s0_0 s0_1 s0_2 s0_3 a1).bind fun bt123 => (some (bt123.1, bt123.2.1, bt123.2.2.1, bt123.2.2.2.1, bt123.2.2.2.2))
set_option maxHeartbeats 8000000 in
set_option maxRecDepth 100000 in
theorem scan_Scan_Fix_p.calls (g : Nat) (s0_0 : ByteArray) (s0_1 : Int) (s0_2 : Int) (s0_3 : Bool) (a1 : Int) (r1 : ByteArray) (r2 : ByteArray) (r3 : Int) (r4 : Int) (r5 : Bool) (w0 w : World) (hI : IsS100 w0 w g s0_0 s0_1 s0_2 s0_3) (hB : Below w0.heap.size w0 w) (h : scan_Scan_Fix_p.f s0_0 s0_1 s0_2 s0_3 a1 = some (r1, r2, r3, r4, r5)) :
    Calls Tryd.prog 33 #[.pointer (some ⟨g, 0, none⟩), .int .i64 a1] w fun e w' => e = .returned (.string r1) ∧ IsS100 w0 w' g r2 r3 r4 r5 ∧ Below w0.heap.size w0 w' ∧ KeepBut w w' g none := by
  have HI0 := Aside0.mk hI
  have HK := Aside0.mk (KeepBut.refl w g none)
  have HL := Aside0.mk hB.size
  clear hI
  have HW0 := Aside0.mk hB.size
  have HB := Aside0.mk hB
  clear hB
  have H : ((scan_Scan_take.f s0_0 s0_1 s0_2 s0_3 a1).bind fun bt123 => (some (bt123.1, bt123.2.1, bt123.2.2.1, bt123.2.2.2.1, bt123.2.2.2.2))) = some (r1, r2, r3, r4, r5) := h
  clear h
  replace H := Option.bind_eq_some_iff.mp H
  obtain ⟨⟨t123, t124, t125, t126, t127⟩, A30, H⟩ := H
  replace H : (some (t123, t124, t125, t126, t127)) = some (r1, r2, r3, r4, r5) := H
  have A3 := Aside0.mk A30
  clear A30
  simp only [Option.some.injEq, Prod.mk.injEq] at H
  obtain ⟨rfl, rfl, rfl, rfl, rfl⟩ := H
  go_enter Tryd.func33, Tryd.ntmps33
  go_wp2_with (first | ((with_reducible refine gate_callee (f := 53) rfl ?_); refine M.goes (some 7) Tryd.func53 #[.pointer (some ⟨g, 0, none⟩), .int .i64 a1] rfl ?_; (with_reducible refine (scan_Scan_take.calls g s0_0 s0_1 s0_2 s0_3 a1 t123 t124 t125 t126 t127 w0 _ ?side1 ?side2 A3.out).mono ?_); (case side1 => repeat (first | (with_reducible first | exact HI0.out | apply IsS100.alloc | apply IsS100.drewN | apply IsS100.drew | apply IsS100.set_0 | apply IsS100.set_1 | apply IsS100.set_2 | apply IsS100.set_3) | exact HI0.out)); (case side2 => repeat (first | (with_reducible first | exact HB.out | apply below_alloc | apply pw_below_drewN | apply below_drew1 | refine below_set ?_ (IsS100.ge HI0.out)) | exact HB.out)); rintro e w4 ⟨rfl, hi, hb, hk⟩; refine ⟨_, rfl, ?_⟩; have n0_ := Aside0.mk (KeepBut.trans (by repeat (first | (with_reducible first | exact HK.out | apply KeepBut.set_ | apply keep_drewN | apply keep_drew | apply keep_alloc) | exact HK.out)) hk (.inl rfl)); have n1_ := Aside0.mk (hb); have n2_ := Aside0.mk (hi); clear HK HB HI0; have HK := n0_; have HB := n1_; have HI0 := n2_; clear n0_ n1_ n2_; (try clear hb); (try clear hk); (try clear hi)))
  go_ret
  exact ⟨by first | rfl | (simp [errW_none, errW_some] <;> rfl) | (simp [*, errW_none, errW_some] <;> rfl), by repeat (first | (with_reducible first | exact HI0.out | apply IsS100.alloc | apply IsS100.drewN | apply IsS100.drew | apply IsS100.set_0 | apply IsS100.set_1 | apply IsS100.set_2 | apply IsS100.set_3) | exact HI0.out), by repeat (first | (with_reducible first | exact HB.out | apply below_alloc | apply pw_below_drewN | apply below_drew1 | refine below_set ?_ (IsS100.ge HI0.out)) | exact HB.out), by repeat (first | (with_reducible first | exact HK.out | apply KeepBut.set_ | apply keep_drewN | apply keep_drew | apply keep_alloc) | exact HK.out)⟩

-- this session's own plain form
def scan_Scan_Fix.f (s0_0 : ByteArray) (s0_1 : Int) (s0_2 : Int) (s0_3 : Bool) (a1 : Int) : Option (ByteArray × ByteArray × Int × Int × Bool) := scan_Scan_take.f s0_0 s0_1 s0_2 s0_3 a1
theorem scan_Scan_Fix.ev (s : ByteArray) (p er : Int) (md : Bool) (n : Int) (r : ByteArray × ByteArray × Int × Int × Bool) (h : scan_Scan_Fix.f s p er md n = some r) : scan_Scan_Fix_p.f s p er md n = some r := by
  unfold scan_Scan_Fix.f at h
  unfold scan_Scan_Fix_p.f
  rw [h]; rfl
theorem scan_Scan_Fix.calls (g : Nat) (s0_0 : ByteArray) (s0_1 : Int) (s0_2 : Int) (s0_3 : Bool) (a1 : Int) (r1 : ByteArray) (r2 : ByteArray) (r3 : Int) (r4 : Int) (r5 : Bool) (w0 w : World) (hI : IsS100 w0 w g s0_0 s0_1 s0_2 s0_3) (hB : Below w0.heap.size w0 w) (h : scan_Scan_Fix.f s0_0 s0_1 s0_2 s0_3 a1 = some (r1, r2, r3, r4, r5)) :
    Calls Tryd.prog 33 #[.pointer (some ⟨g, 0, none⟩), .int .i64 a1] w fun e w' => e = .returned (.string r1) ∧ IsS100 w0 w' g r2 r3 r4 r5 ∧ Below w0.heap.size w0 w' ∧ KeepBut w w' g none := by
  exact scan_Scan_Fix_p.calls (w := w) (h := scan_Scan_Fix.ev _ _ _ _ _ _ h) (hI := hI) (hB := hB)

/-! ### scan_Scan_Text_p: function 34 -/
def scan_Scan_Text_p.f (s0_0 : ByteArray) (s0_1 : Int) (s0_2 : Int) (s0_3 : Bool) (a1 : Int) : Option (ByteArray × ByteArray × Int × Int × Bool) := (scan_Scan_Num.f s0_0 s0_1 s0_2 s0_3 a1).bind fun bt128 => ((scan_Scan_take.f bt128.2.1 bt128.2.2.1 bt128.2.2.2.1 bt128.2.2.2.2 bt128.1).bind fun bt133 => (some (bt133.1, bt133.2.1, bt133.2.2.1, bt133.2.2.2.1, bt133.2.2.2.2)))
set_option maxHeartbeats 8000000 in
set_option maxRecDepth 100000 in
theorem scan_Scan_Text_p.calls (g : Nat) (s0_0 : ByteArray) (s0_1 : Int) (s0_2 : Int) (s0_3 : Bool) (a1 : Int) (r1 : ByteArray) (r2 : ByteArray) (r3 : Int) (r4 : Int) (r5 : Bool) (w0 w : World) (hI : IsS100 w0 w g s0_0 s0_1 s0_2 s0_3) (hB : Below w0.heap.size w0 w) (h : scan_Scan_Text_p.f s0_0 s0_1 s0_2 s0_3 a1 = some (r1, r2, r3, r4, r5)) :
    Calls Tryd.prog 34 #[.pointer (some ⟨g, 0, none⟩), .int .i64 a1] w fun e w' => e = .returned (.string r1) ∧ IsS100 w0 w' g r2 r3 r4 r5 ∧ Below w0.heap.size w0 w' ∧ KeepBut w w' g none := by
  have HI0 := Aside0.mk hI
  have HK := Aside0.mk (KeepBut.refl w g none)
  have HL := Aside0.mk hB.size
  clear hI
  have HW0 := Aside0.mk hB.size
  have HB := Aside0.mk hB
  clear hB
  have H : ((scan_Scan_Num.f s0_0 s0_1 s0_2 s0_3 a1).bind fun bt128 => ((scan_Scan_take.f bt128.2.1 bt128.2.2.1 bt128.2.2.2.1 bt128.2.2.2.2 bt128.1).bind fun bt133 => (some (bt133.1, bt133.2.1, bt133.2.2.1, bt133.2.2.2.1, bt133.2.2.2.2)))) = some (r1, r2, r3, r4, r5) := h
  clear h
  replace H := Option.bind_eq_some_iff.mp H
  obtain ⟨⟨t128, t129, t130, t131, t132⟩, A30, H⟩ := H
  replace H : ((scan_Scan_take.f t129 t130 t131 t132 t128).bind fun bt133 => (some (bt133.1, bt133.2.1, bt133.2.2.1, bt133.2.2.2.1, bt133.2.2.2.2))) = some (r1, r2, r3, r4, r5) := H
  have A3 := Aside0.mk A30
  clear A30
  replace H := Option.bind_eq_some_iff.mp H
  obtain ⟨⟨t133, t134, t135, t136, t137⟩, A40, H⟩ := H
  replace H : (some (t133, t134, t135, t136, t137)) = some (r1, r2, r3, r4, r5) := H
  have A4 := Aside0.mk A40
  clear A40
  simp only [Option.some.injEq, Prod.mk.injEq] at H
  obtain ⟨rfl, rfl, rfl, rfl, rfl⟩ := H
  go_enter Tryd.func34, Tryd.ntmps34
  go_wp2_with (first | ((with_reducible refine gate_callee (f := 32) rfl ?_); refine M.goes (some 8) Tryd.func32 #[.pointer (some ⟨g, 0, none⟩), .int .i64 a1] rfl ?_; (with_reducible refine (scan_Scan_Num.calls g s0_0 s0_1 s0_2 s0_3 a1 t128 t129 t130 t131 t132 w0 _ ?side1 ?side2 A3.out).mono ?_); (case side1 => repeat (first | (with_reducible first | exact HI0.out | apply IsS100.alloc | apply IsS100.drewN | apply IsS100.drew | apply IsS100.set_0 | apply IsS100.set_1 | apply IsS100.set_2 | apply IsS100.set_3) | exact HI0.out)); (case side2 => repeat (first | (with_reducible first | exact HB.out | apply below_alloc | apply pw_below_drewN | apply below_drew1 | refine below_set ?_ (IsS100.ge HI0.out)) | exact HB.out)); rintro e w5 ⟨rfl, hi, hb, hk⟩; refine ⟨_, rfl, ?_⟩; have n0_ := Aside0.mk (KeepBut.trans (by repeat (first | (with_reducible first | exact HK.out | apply KeepBut.set_ | apply keep_drewN | apply keep_drew | apply keep_alloc) | exact HK.out)) hk (.inl rfl)); have n1_ := Aside0.mk (hb); have n2_ := Aside0.mk (hi); clear HK HB HI0; have HK := n0_; have HB := n1_; have HI0 := n2_; clear n0_ n1_ n2_; (try clear hb); (try clear hk); (try clear hi)) | ((with_reducible refine gate_callee (f := 53) rfl ?_); refine M.goes (some 9) Tryd.func53 #[.pointer (some ⟨g, 0, none⟩), .int .i64 t128] rfl ?_; (with_reducible refine (scan_Scan_take.calls g t129 t130 t131 t132 t128 t133 t134 t135 t136 t137 w0 _ ?side1 ?side2 A4.out).mono ?_); (case side1 => repeat (first | (with_reducible first | exact HI0.out | apply IsS100.alloc | apply IsS100.drewN | apply IsS100.drew | apply IsS100.set_0 | apply IsS100.set_1 | apply IsS100.set_2 | apply IsS100.set_3) | exact HI0.out)); (case side2 => repeat (first | (with_reducible first | exact HB.out | apply below_alloc | apply pw_below_drewN | apply below_drew1 | refine below_set ?_ (IsS100.ge HI0.out)) | exact HB.out)); rintro e w6 ⟨rfl, hi, hb, hk⟩; refine ⟨_, rfl, ?_⟩; have n0_ := Aside0.mk (KeepBut.trans (by repeat (first | (with_reducible first | exact HK.out | apply KeepBut.set_ | apply keep_drewN | apply keep_drew | apply keep_alloc) | exact HK.out)) hk (.inl rfl)); have n1_ := Aside0.mk (hb); have n2_ := Aside0.mk (hi); clear HK HB HI0; have HK := n0_; have HB := n1_; have HI0 := n2_; clear n0_ n1_ n2_; (try clear hb); (try clear hk); (try clear hi)))
  go_ret
  exact ⟨by first | rfl | (simp [errW_none, errW_some] <;> rfl) | (simp [*, errW_none, errW_some] <;> rfl), by repeat (first | (with_reducible first | exact HI0.out | apply IsS100.alloc | apply IsS100.drewN | apply IsS100.drew | apply IsS100.set_0 | apply IsS100.set_1 | apply IsS100.set_2 | apply IsS100.set_3) | exact HI0.out), by repeat (first | (with_reducible first | exact HB.out | apply below_alloc | apply pw_below_drewN | apply below_drew1 | refine below_set ?_ (IsS100.ge HI0.out)) | exact HB.out), by repeat (first | (with_reducible first | exact HK.out | apply KeepBut.set_ | apply keep_drewN | apply keep_drew | apply keep_alloc) | exact HK.out)⟩

-- this session's own plain form
def scan_Scan_Text.f (s0_0 : ByteArray) (s0_1 : Int) (s0_2 : Int) (s0_3 : Bool) (a1 : Int) : Option (ByteArray × ByteArray × Int × Int × Bool) :=
  if s0_3 = true then (if M.sok s0_0 s0_1 ∧ a1 ≤ 9223372036854775807 then some ((M.xtext s0_0 s0_1 s0_2 a1).1, s0_0, (M.xtext s0_0 s0_1 s0_2 a1).2.1, (M.xtext s0_0 s0_1 s0_2 a1).2.2, true) else none) else some (M.sb [], s0_0, s0_1, s0_2, s0_3)
theorem scan_Scan_Text.ev (s : ByteArray) (p er : Int) (md : Bool) (n : Int) (r : ByteArray × ByteArray × Int × Int × Bool) (h : scan_Scan_Text.f s p er md n = some r) : scan_Scan_Text_p.f s p er md n = some r := by
  unfold scan_Scan_Text.f at h
  unfold scan_Scan_Text_p.f scan_Scan_Num.f
  cases md with
  | false =>
    rw [if_neg (by simp)] at h ⊢
    rw [Option.bind_some]
    unfold scan_Scan_take.f
    simp only
    rw [if_neg (by simp)]; exact h
  | true =>
    rw [if_pos rfl] at h
    split at h
    case isFalse => cases h
    case isTrue hh =>
      obtain ⟨hs, hm⟩ := hh
      rw [← h]
      unfold M.xtext M.xnum
      by_cases he : er = 0
      · rw [if_pos ⟨rfl, he⟩, if_pos ⟨hs, hm⟩, Option.bind_some]
        simp only [if_pos he]
        have hr := M.snum_range s hs hm
        unfold scan_Scan_take.f
        rw [if_pos rfl, if_pos ⟨M.snum_ok s n hs, by omega, by omega⟩]; rfl
      · rw [if_neg (fun z => he z.2), Option.bind_some]
        simp only [if_neg he]
        unfold scan_Scan_take.f
        rw [if_pos rfl, if_pos ⟨hs, by decide, by decide⟩]; rfl
theorem scan_Scan_Text.calls (g : Nat) (s0_0 : ByteArray) (s0_1 : Int) (s0_2 : Int) (s0_3 : Bool) (a1 : Int) (r1 : ByteArray) (r2 : ByteArray) (r3 : Int) (r4 : Int) (r5 : Bool) (w0 w : World) (hI : IsS100 w0 w g s0_0 s0_1 s0_2 s0_3) (hB : Below w0.heap.size w0 w) (h : scan_Scan_Text.f s0_0 s0_1 s0_2 s0_3 a1 = some (r1, r2, r3, r4, r5)) :
    Calls Tryd.prog 34 #[.pointer (some ⟨g, 0, none⟩), .int .i64 a1] w fun e w' => e = .returned (.string r1) ∧ IsS100 w0 w' g r2 r3 r4 r5 ∧ Below w0.heap.size w0 w' ∧ KeepBut w w' g none := by
  exact scan_Scan_Text_p.calls (w := w) (h := scan_Scan_Text.ev _ _ _ _ _ _ h) (hI := hI) (hB := hB)

/-! ### scan_Scan_End: function 35 -/
def scan_Scan_End.f (s0_0 : ByteArray) (s0_1 : Int) (s0_2 : Int) (s0_3 : Bool) : Option (Int × ByteArray × Int × Int × Bool) :=
  if s0_3 = true then (if s0_2 = 0 ∧ s0_1 < s0_0.size then some (3, s0_0, s0_1, 3, true) else some (s0_2, s0_0, s0_1, s0_2, true)) else some (1, s0_0, s0_1, s0_2, false)

theorem scan_Scan_End.err1 (g : Nat) (s : ByteArray) (p er : Int) (w0 w : World) (hI : IsS100 w0 w g s p er true) :
    Calls Tryd.prog 54 #[.pointer (some ⟨g, 0, none⟩)] w fun e w' => e = .returned (.int .i64 er) ∧ w' = w := by
  have h2 := cellS100_2 hI.1
  have h3 := cellS100_3 hI.1
  clear hI
  go_enter Tryd.func54, Tryd.ntmps54
  go_wp2
  go_ret
  exact ⟨rfl, rfl⟩
theorem scan_Scan_End.err0 (g : Nat) (s : ByteArray) (p er : Int) (w0 w : World) (hI : IsS100 w0 w g s p er false) :
    Calls Tryd.prog 54 #[.pointer (some ⟨g, 0, none⟩)] w fun e w' => e = .returned (.int .i64 1) ∧ w' = w := by
  have h2 := cellS100_2 hI.1
  have h3 := cellS100_3 hI.1
  clear hI
  go_enter Tryd.func54, Tryd.ntmps54
  go_wp2
  go_ret
  exact ⟨rfl, rfl⟩

set_option maxHeartbeats 1000000 in
theorem scan_Scan_End.off (g : Nat) (s : ByteArray) (p er : Int) (w0 w : World) (hI : IsS100 w0 w g s p er true) (hB : Below w0.heap.size w0 w) (he : er ≠ 0) :
    Calls Tryd.prog 35 #[.pointer (some ⟨g, 0, none⟩)] w fun e w' => e = .returned (.int .i64 er) ∧ IsS100 w0 w' g s p er true ∧ Below w0.heap.size w0 w' ∧ KeepBut w w' g none := by
  have hb0 : (er == 0) = false := by simpa using he
  have HI := Aside0.mk hI
  have HB := Aside0.mk hB
  clear he hI hB
  go_enter Tryd.func35, Tryd.ntmps35
  go_wp2
  go_quiet ((go_at_call 54; exact Calls.quiet_of_same (scan_Scan_End.err1 g s p er w0 _ HI.out)))
  go_wp2_with (go_at_call 54; refine (scan_Scan_Err.calls g s p er true er s p er true w0 _ (IsS100.drewN HI.out _) (pw_below_drewN HB.out _) rfl).mono ?_; rintro e w2 ⟨rfl, hi2, hb2, hk2⟩)
  go_ret
  exact ⟨rfl, hi2, hb2, KeepBut.trans (keep_drewN (KeepBut.refl w g none) _) hk2 (.inl rfl)⟩

set_option maxHeartbeats 1000000 in
theorem scan_Scan_End.none_ (g : Nat) (s : ByteArray) (p er : Int) (w0 w : World) (hI : IsS100 w0 w g s p er false) (hB : Below w0.heap.size w0 w) :
    Calls Tryd.prog 35 #[.pointer (some ⟨g, 0, none⟩)] w fun e w' => e = .returned (.int .i64 1) ∧ IsS100 w0 w' g s p er false ∧ Below w0.heap.size w0 w' ∧ KeepBut w w' g none := by
  have HI := Aside0.mk hI
  have HB := Aside0.mk hB
  clear hI hB
  go_enter Tryd.func35, Tryd.ntmps35
  go_wp2
  go_quiet ((go_at_call 54; exact Calls.quiet_of_same (scan_Scan_End.err0 g s p er w0 _ HI.out)))
  go_wp2_with (go_at_call 54; refine (scan_Scan_Err.calls g s p er false 1 s p er false w0 _ (IsS100.drewN HI.out _) (pw_below_drewN HB.out _) rfl).mono ?_; rintro e w2 ⟨rfl, hi2, hb2, hk2⟩)
  go_ret
  exact ⟨rfl, hi2, hb2, KeepBut.trans (keep_drewN (KeepBut.refl w g none) _) hk2 (.inl rfl)⟩

set_option maxHeartbeats 1000000 in
theorem scan_Scan_End.more (g : Nat) (s : ByteArray) (p : Int) (w0 w : World) (hI : IsS100 w0 w g s p 0 true) (hB : Below w0.heap.size w0 w) (hp : p < s.size) :
    Calls Tryd.prog 35 #[.pointer (some ⟨g, 0, none⟩)] w fun e w' => e = .returned (.int .i64 3) ∧ IsS100 w0 w' g s p 3 true ∧ Below w0.heap.size w0 w' ∧ KeepBut w w' g none := by
  have ht : decide (p < (s.size : Int)) = true := decide_eq_true hp
  have hc0 := cellS100_0 hI.1
  have hc1 := cellS100_1 hI.1
  have hc2 := cellS100_2 hI.1
  have hf2 := blk_frozen hI.1 2
  have HI := Aside0.mk hI
  have HB := Aside0.mk hB
  clear hI hB hp
  go_enter Tryd.func35, Tryd.ntmps35
  go_wp2
  go_quiet ((go_at_call 54; exact Calls.quiet_of_same (scan_Scan_End.err1 g s p 0 w0 _ HI.out)))
  go_wp2_with (go_at_call 54; refine (scan_Scan_Err.calls g s p 3 true 3 s p 3 true w0 _ (IsS100.set_2 (IsS100.drewN HI.out _) 3) (below_set (pw_below_drewN HB.out _) (IsS100.ge HI.out)) rfl).mono ?_; rintro e w2 ⟨rfl, hi2, hb2, hk2⟩)
  go_ret
  exact ⟨rfl, hi2, hb2, KeepBut.trans (KeepBut.set_ (keep_drewN (KeepBut.refl w g none) _) _ _) hk2 (.inl rfl)⟩

set_option maxHeartbeats 1000000 in
theorem scan_Scan_End.done_ (g : Nat) (s : ByteArray) (p : Int) (w0 w : World) (hI : IsS100 w0 w g s p 0 true) (hB : Below w0.heap.size w0 w) (hp : ¬ p < s.size) :
    Calls Tryd.prog 35 #[.pointer (some ⟨g, 0, none⟩)] w fun e w' => e = .returned (.int .i64 0) ∧ IsS100 w0 w' g s p 0 true ∧ Below w0.heap.size w0 w' ∧ KeepBut w w' g none := by
  have ht : decide (p < (s.size : Int)) = false := decide_eq_false hp
  have hc0 := cellS100_0 hI.1
  have hc1 := cellS100_1 hI.1
  have HI := Aside0.mk hI
  have HB := Aside0.mk hB
  clear hI hB hp
  go_enter Tryd.func35, Tryd.ntmps35
  go_wp2
  go_quiet ((go_at_call 54; exact Calls.quiet_of_same (scan_Scan_End.err1 g s p 0 w0 _ HI.out)))
  go_wp2_with (go_at_call 54; refine (scan_Scan_Err.calls g s p 0 true 0 s p 0 true w0 _ (IsS100.drewN HI.out _) (pw_below_drewN HB.out _) rfl).mono ?_; rintro e w2 ⟨rfl, hi2, hb2, hk2⟩)
  go_ret
  exact ⟨rfl, hi2, hb2, KeepBut.trans (keep_drewN (KeepBut.refl w g none) _) hk2 (.inl rfl)⟩

theorem scan_Scan_End.calls (g : Nat) (s0_0 : ByteArray) (s0_1 : Int) (s0_2 : Int) (s0_3 : Bool) (r1 : Int) (r2 : ByteArray) (r3 : Int) (r4 : Int) (r5 : Bool) (w0 w : World) (hI : IsS100 w0 w g s0_0 s0_1 s0_2 s0_3) (hB : Below w0.heap.size w0 w) (h : scan_Scan_End.f s0_0 s0_1 s0_2 s0_3 = some (r1, r2, r3, r4, r5)) :
    Calls Tryd.prog 35 #[.pointer (some ⟨g, 0, none⟩)] w fun e w' => e = .returned (.int .i64 r1) ∧ IsS100 w0 w' g r2 r3 r4 r5 ∧ Below w0.heap.size w0 w' ∧ KeepBut w w' g none := by
  unfold scan_Scan_End.f at h
  cases s0_3 with
  | false =>
    rw [if_neg (by simp)] at h
    simp only [Option.some.injEq, Prod.mk.injEq] at h
    obtain ⟨rfl, rfl, rfl, rfl, rfl⟩ := h
    exact scan_Scan_End.none_ g _ _ _ w0 w hI hB
  | true =>
    rw [if_pos rfl] at h
    by_cases h0 : s0_2 = 0
    · subst h0
      by_cases hp : s0_1 < s0_0.size
      · rw [if_pos ⟨rfl, hp⟩] at h
        simp only [Option.some.injEq, Prod.mk.injEq] at h
        obtain ⟨rfl, rfl, rfl, rfl, rfl⟩ := h
        exact scan_Scan_End.more g _ _ w0 w hI hB hp
      · rw [if_neg (fun z => hp z.2)] at h
        simp only [Option.some.injEq, Prod.mk.injEq] at h
        obtain ⟨rfl, rfl, rfl, rfl, rfl⟩ := h
        exact scan_Scan_End.done_ g _ _ w0 w hI hB hp
    · rw [if_neg (fun z => h0 z.1)] at h
      simp only [Option.some.injEq, Prod.mk.injEq] at h
      obtain ⟨rfl, rfl, rfl, rfl, rfl⟩ := h
      exact scan_Scan_End.off g _ _ _ w0 w hI hB h0
theorem scan_Scan_End.eq (s : ByteArray) (p er : Int) : scan_Scan_End.f s p er true = some (M.xend s p er, s, p, M.xend s p er, true) := by
  unfold scan_Scan_End.f M.xend
  rw [if_pos rfl]
  by_cases hc : er = 0 ∧ p < s.size
  · simp only [if_pos hc]
  · simp only [if_neg hc]

/-! ### commit_Take_p: function 9 -/
def commit_Take_p.l0 : Nat → Int → Int → ByteArray → Int → Int → Bool → Int → List ByteArray → ByteArray → ByteArray → Option (Int × List ByteArray × ByteArray × ByteArray × Int)
  | 0, _, _, _, _, _, _, _, _, _, _ => none
  | k + 1, x16, x17, zaa, zab, zac, zad, zae, zaf, zag, zah => if x17 < x16 then ((scan_Scan_Fix.f zaa zab zac zad 32).bind fun bt160 => (if zaf.length < 8796093022208 then (commit_Take_p.l0 k x16 (wrap64 (x17 + 1)) bt160.2.1 bt160.2.2.1 bt160.2.2.2.1 bt160.2.2.2.2 zae (zaf ++ [bt160.1]) zag zah) else (none))) else ((scan_Scan_Fix.f zaa zab zac zad 32).bind fun bt168 => ((scan_Scan_Text.f bt168.2.1 bt168.2.2.1 bt168.2.2.2.1 bt168.2.2.2.2 40).bind fun bt173 => ((scan_Scan_End.f bt173.2.1 bt173.2.2.1 bt173.2.2.2.1 bt173.2.2.2.2).bind fun bt178 => (if bt178.1 = 0 then ((commit_Check.f zae zaf bt168.1 bt173.1).bind fun t183 => (if t183 = 0 then (some (zae, zaf, bt168.1, bt173.1, 0)) else (some (0, ([] : List ByteArray), (⟨#[]⟩ : ByteArray), (⟨#[]⟩ : ByteArray), 3)))) else (some (0, ([] : List ByteArray), (⟨#[]⟩ : ByteArray), (⟨#[]⟩ : ByteArray), 3))))))
def commit_Take_p.f (k : Nat) (a0 : ByteArray) : Option (Int × List ByteArray × ByteArray × ByteArray × Int) := (scan_New.f a0).bind fun bt139 => ((scan_Scan_Byte.f bt139.1 bt139.2.1 bt139.2.2.1 bt139.2.2.2).bind fun bt144 => (if bt144.1 = 67 then ((scan_Scan_Num.f bt144.2.1 bt144.2.2.1 bt144.2.2.2.1 bt144.2.2.2.2 4294967295).bind fun bt149 => ((scan_Scan_Num.f bt149.2.1 bt149.2.2.1 bt149.2.2.2.1 bt149.2.2.2.2 2).bind fun bt155 => (commit_Take_p.l0 k bt155.1 0 bt155.2.1 bt155.2.2.1 bt155.2.2.2.1 bt155.2.2.2.2 bt149.1 ([] : List ByteArray) (⟨#[]⟩ : ByteArray) (⟨#[]⟩ : ByteArray)))) else (some (0, ([] : List ByteArray), (⟨#[]⟩ : ByteArray), (⟨#[]⟩ : ByteArray), 3))))
theorem commit_Take_p.mono_l : ∀ k, (∀ y0 y1 y2 y3 y4 y5 y6 y7 y8 y9, LeO (commit_Take_p.l0 k y0 y1 y2 y3 y4 y5 y6 y7 y8 y9) (commit_Take_p.l0 (k + 1) y0 y1 y2 y3 y4 y5 y6 y7 y8 y9))
  | 0 => fun _ _ _ _ _ _ _ _ _ _ r h => by simp [commit_Take_p.l0] at h
  | k + 1 => by
    have ih0 := commit_Take_p.mono_l k
    · intro y0 y1 y2 y3 y4 y5 y6 y7 y8 y9
      unfold commit_Take_p.l0
      repeat' first
      | (with_reducible exact ih0 _ _ _ _ _ _ _ _ _ _)
      | (with_reducible exact LeO.refl _)
      | (with_reducible exact LeO.none _)
      | (with_reducible refine LeO.ite ?_ ?_)
      | (with_reducible refine LeO.bind ?_ (fun _ => ?_))
      | exact ih0 _ _ _ _ _ _ _ _ _ _
      | exact LeO.none _
      | refine LeO.ite ?_ ?_
      | refine LeO.bind ?_ (fun _ => ?_)
theorem commit_Take_p.mono : ∀ a0 k, LeO (commit_Take_p.f k a0) (commit_Take_p.f (k + 1) a0) := by
  intro a0 k
  have ih0 := commit_Take_p.mono_l k
  unfold commit_Take_p.f
  repeat' first
      | (with_reducible exact ih0 _ _ _ _ _ _ _ _ _ _)
      | (with_reducible exact LeO.refl _)
      | (with_reducible exact LeO.none _)
      | (with_reducible refine LeO.ite ?_ ?_)
      | (with_reducible refine LeO.bind ?_ (fun _ => ?_))
      | exact ih0 _ _ _ _ _ _ _ _ _ _
      | exact LeO.none _
      | refine LeO.ite ?_ ?_
      | refine LeO.bind ?_ (fun _ => ?_)
def commit_Take_p.T7 : Bool × List (List Nat × List Nat) := (true, [([], []), ([0], [0]), ([], []), ([2], [2]), ([3], [3]), ([1, 4, 3], [1, 4]), ([0, 1, 2, 3, 4, 5], []), ([6, 5, 5, 0, 1, 2, 3, 4, 5], [5, 6])])
def commit_Take_p.B7 : List Nat := [0, 1, 0, 4, 12, 31, 63, 127]
theorem commit_Take_p.tab7 : rtab .any (opsOf Tryd.f9 7) = commit_Take_p.T7 := by kernel_rfl
theorem commit_Take_p.bits7 : waitsOk commit_Take_p.T7.2 commit_Take_p.B7 = true := by kernel_rfl
set_option maxHeartbeats 8000000 in
set_option maxRecDepth 100000 in
theorem commit_Take_p.calls (k : Nat) (a0 : ByteArray) (r1 : Int) (r2 : List ByteArray) (r3 : ByteArray) (r4 : ByteArray) (r5 : Int) (w : World) (h : commit_Take_p.f k a0 = some (r1, r2, r3, r4, r5)) :
    Calls Tryd.prog 9 #[.string a0] w fun e w' => ∃ v1_ : Value, e = .returned (.tuple #[.agg #[.int .i64 r1, v1_, .string r3, .string r4], .int .i64 r5]) ∧ Kd.R Kd.string 9 w' w.heap.size (fun _ => True) v1_ r2 ∧ Below w.heap.size w w' := by
  have hu24 := Tryd.underlying24
  have HB := Aside0.mk (Below.refl w.heap.size w)
  have H : ((scan_New.f a0).bind fun bt139 => ((scan_Scan_Byte.f bt139.1 bt139.2.1 bt139.2.2.1 bt139.2.2.2).bind fun bt144 => (if bt144.1 = 67 then ((scan_Scan_Num.f bt144.2.1 bt144.2.2.1 bt144.2.2.2.1 bt144.2.2.2.2 4294967295).bind fun bt149 => ((scan_Scan_Num.f bt149.2.1 bt149.2.2.1 bt149.2.2.2.1 bt149.2.2.2.2 2).bind fun bt155 => (commit_Take_p.l0 k bt155.1 0 bt155.2.1 bt155.2.2.1 bt155.2.2.2.1 bt155.2.2.2.2 bt149.1 ([] : List ByteArray) (⟨#[]⟩ : ByteArray) (⟨#[]⟩ : ByteArray)))) else (some (0, ([] : List ByteArray), (⟨#[]⟩ : ByteArray), (⟨#[]⟩ : ByteArray), 3))))) = some (r1, r2, r3, r4, r5) := h
  clear h
  replace H := Option.bind_eq_some_iff.mp H
  obtain ⟨⟨t139, t140, t141, t142⟩, A20, H⟩ := H
  replace H : ((scan_Scan_Byte.f t139 t140 t141 t142).bind fun bt144 => (if bt144.1 = 67 then ((scan_Scan_Num.f bt144.2.1 bt144.2.2.1 bt144.2.2.2.1 bt144.2.2.2.2 4294967295).bind fun bt149 => ((scan_Scan_Num.f bt149.2.1 bt149.2.2.1 bt149.2.2.2.1 bt149.2.2.2.2 2).bind fun bt155 => (commit_Take_p.l0 k bt155.1 0 bt155.2.1 bt155.2.2.1 bt155.2.2.2.1 bt155.2.2.2.2 bt149.1 ([] : List ByteArray) (⟨#[]⟩ : ByteArray) (⟨#[]⟩ : ByteArray)))) else (some (0, ([] : List ByteArray), (⟨#[]⟩ : ByteArray), (⟨#[]⟩ : ByteArray), 3)))) = some (r1, r2, r3, r4, r5) := H
  have A2 := Aside0.mk A20
  clear A20
  replace H := Option.bind_eq_some_iff.mp H
  obtain ⟨⟨t144, t145, t146, t147, t148⟩, A30, H⟩ := H
  replace H : (if t144 = 67 then ((scan_Scan_Num.f t145 t146 t147 t148 4294967295).bind fun bt149 => ((scan_Scan_Num.f bt149.2.1 bt149.2.2.1 bt149.2.2.2.1 bt149.2.2.2.2 2).bind fun bt155 => (commit_Take_p.l0 k bt155.1 0 bt155.2.1 bt155.2.2.1 bt155.2.2.2.1 bt155.2.2.2.2 bt149.1 ([] : List ByteArray) (⟨#[]⟩ : ByteArray) (⟨#[]⟩ : ByteArray)))) else (some (0, ([] : List ByteArray), (⟨#[]⟩ : ByteArray), (⟨#[]⟩ : ByteArray), 3))) = some (r1, r2, r3, r4, r5) := H
  have A3 := Aside0.mk A30
  clear A30
  by_cases c4 : t144 = 67
  · rw [if_pos c4] at H
    have c4b0 : (t144 == 67) = true := beq_iff_eq.mpr c4
    have c4b1 : (t144 != 67) = false := bne_eq_false_iff_eq.mpr c4
    clear c4
    replace H := Option.bind_eq_some_iff.mp H
    obtain ⟨⟨t149, t150, t151, t152, t153⟩, A50, H⟩ := H
    replace H : ((scan_Scan_Num.f t150 t151 t152 t153 2).bind fun bt155 => (commit_Take_p.l0 k bt155.1 0 bt155.2.1 bt155.2.2.1 bt155.2.2.2.1 bt155.2.2.2.2 t149 ([] : List ByteArray) (⟨#[]⟩ : ByteArray) (⟨#[]⟩ : ByteArray))) = some (r1, r2, r3, r4, r5) := H
    have A5 := Aside0.mk A50
    clear A50
    replace H := Option.bind_eq_some_iff.mp H
    obtain ⟨⟨t155, t156, t157, t158, t159⟩, A60, H⟩ := H
    replace H : (commit_Take_p.l0 k t155 0 t156 t157 t158 t159 t149 ([] : List ByteArray) (⟨#[]⟩ : ByteArray) (⟨#[]⟩ : ByteArray)) = some (r1, r2, r3, r4, r5) := H
    have A6 := Aside0.mk A60
    clear A60
    have H' := Aside0.mk H
    clear H
    go_enter Tryd.func9, Tryd.ntmps9
    go_wp2_with (first | ((with_reducible refine gate_dst (N := 2) rfl ?_); refine box_event ?hg (N := 2) ?hd (cs := #[.int .i64 0, .slice none 0 0, .string (⟨#[]⟩ : ByteArray), .string (⟨#[]⟩ : ByteArray)]) (t := 24) ?hr ?_; (case hd => rfl); (case hg => rfl); (case hr => first | (go_simp; done) | (go_simp; rfl)); intro zai hg w7 hbox hb; have n0_ := M.upS HB hb; have n1_ := Aside0.mk (hbox); have n2_ := M.upG HB hg; have n3_ := M.upG HB hg; clear HB; have HB := n0_; have zaj := n1_; have zak := n2_; have zal := n3_; clear n0_ n1_ n2_ n3_; clear hb hbox hg) | ((with_reducible refine gate_callee (f := 30) rfl ?_); refine M.goes (some 7) Tryd.func30 #[.string a0] rfl ?_; (with_reducible refine (scan_New.calls a0 t139 t140 t141 t142 w _ ?side1 A2.out).mono ?_); (case side1 => repeat (first | (with_reducible first | exact HB.out | apply below_alloc | apply pw_below_drewN | apply below_drew1 | refine below_set ?_ zal.out) | exact HB.out)); rintro e w8 ⟨g143, rfl, hi, hb, hb2⟩; refine ⟨_, rfl, ?_⟩; have n0_ := M.bkB zaj hb2; have n1_ := Aside0.mk (hb); have n2_ := Aside0.mk (hi); have n3_ := Aside0.mk (IsS100.ne_blk hi (blk_below (g := zai) (o := .cells #[.int .i64 0, .slice none 0 0, .string (⟨#[]⟩ : ByteArray), .string (⟨#[]⟩ : ByteArray)] 24 (0, 0)) (M.bk zaj) hb2) (by decide)); have n4_ := Aside0.mk (Ne.symm (IsS100.ne_blk hi (blk_below (g := zai) (o := .cells #[.int .i64 0, .slice none 0 0, .string (⟨#[]⟩ : ByteArray), .string (⟨#[]⟩ : ByteArray)] 24 (0, 0)) (M.bk zaj) hb2) (by decide))); clear zaj HB; have zaj := n0_; have HB := n1_; have HI143 := n2_; have zam := n3_; have zan := n4_; clear n0_ n1_ n2_ n3_ n4_; (try clear hb); (try clear hb2); (try clear hi)) | ((with_reducible refine gate_callee (f := 31) rfl ?_); refine M.goes (some 9) Tryd.func31 #[.pointer (some ⟨g143, 0, none⟩)] rfl ?_; (with_reducible refine (scan_Scan_Byte.calls g143 t139 t140 t141 t142 t144 t145 t146 t147 t148 w _ ?side1 ?side2 A3.out).mono ?_); (case side1 => repeat (first | (with_reducible first | exact HI143.out | apply IsS100.alloc | apply IsS100.drewN | apply IsS100.drew | apply IsS100.set_0 | apply IsS100.set_1 | apply IsS100.set_2 | apply IsS100.set_3 | refine IsS100.far ?_ zam.out _) | exact HI143.out)); (case side2 => repeat (first | (with_reducible first | exact HB.out | apply below_alloc | apply pw_below_drewN | apply below_drew1 | refine below_set ?_ (IsS100.ge HI143.out) | refine below_set ?_ zal.out) | exact HB.out)); rintro e w9 ⟨rfl, hi, hb, hk⟩; refine ⟨_, rfl, ?_⟩; have n0_ := Aside0.mk (KeepBut.blk hk (g' := zai) (o := .cells #[.int .i64 0, .slice none 0 0, .string (⟨#[]⟩ : ByteArray), .string (⟨#[]⟩ : ByteArray)] 24 (0, 0)) (M.bk zaj) zan.out (by simp)); have n1_ := Aside0.mk (hb); have n2_ := Aside0.mk (hi); clear zaj HB HI143; have zaj := n0_; have HB := n1_; have HI143 := n2_; clear n0_ n1_ n2_; (try clear hb); (try clear hk); (try clear hi)) | ((with_reducible refine gate_callee (f := 32) rfl ?_); refine M.goes (some 13) Tryd.func32 #[.pointer (some ⟨g143, 0, none⟩), .int .i64 4294967295] rfl ?_; (with_reducible refine (scan_Scan_Num.calls g143 t145 t146 t147 t148 4294967295 t149 t150 t151 t152 t153 w _ ?side1 ?side2 A5.out).mono ?_); (case side1 => repeat (first | (with_reducible first | exact HI143.out | apply IsS100.alloc | apply IsS100.drewN | apply IsS100.drew | apply IsS100.set_0 | apply IsS100.set_1 | apply IsS100.set_2 | apply IsS100.set_3 | refine IsS100.far ?_ zam.out _) | exact HI143.out)); (case side2 => repeat (first | (with_reducible first | exact HB.out | apply below_alloc | apply pw_below_drewN | apply below_drew1 | refine below_set ?_ (IsS100.ge HI143.out) | refine below_set ?_ zal.out) | exact HB.out)); rintro e w10 ⟨rfl, hi, hb, hk⟩; refine ⟨_, rfl, ?_⟩; have n0_ := Aside0.mk (KeepBut.blk hk (g' := zai) (o := .cells #[.int .i64 0, .slice none 0 0, .string (⟨#[]⟩ : ByteArray), .string (⟨#[]⟩ : ByteArray)] 24 (0, 0)) (M.bk zaj) zan.out (by simp)); have n1_ := Aside0.mk (hb); have n2_ := Aside0.mk (hi); clear zaj HB HI143; have zaj := n0_; have HB := n1_; have HI143 := n2_; clear n0_ n1_ n2_; (try clear hb); (try clear hk); (try clear hi)) | ((with_reducible refine gate_dst (N := 5) rfl ?_); refine box_event ?hg (N := 5) ?hd (cs := #[.int .i64 0, .slice none 0 0, .string (⟨#[]⟩ : ByteArray), .string (⟨#[]⟩ : ByteArray)]) (t := 24) ?hr ?_; (case hd => rfl); (case hg => rfl); (case hr => first | (go_simp; done) | (go_simp; rfl)); intro zao hg w11 hbox hb; have n0_ := M.bkB zaj hb; have n1_ := Aside0.mk (IsS100.below (by repeat (first | (with_reducible first | exact HI143.out | apply IsS100.alloc | apply IsS100.drewN | apply IsS100.drew | apply IsS100.set_0 | apply IsS100.set_1 | apply IsS100.set_2 | apply IsS100.set_3 | refine IsS100.far ?_ zam.out _) | exact HI143.out)) hb); have n2_ := Aside0.mk (below_step (by repeat (first | (with_reducible first | exact HB.out | apply below_alloc | apply pw_below_drewN | apply below_drew1 | refine below_set ?_ (IsS100.ge HI143.out) | refine below_set ?_ zal.out) | exact HB.out)) hb); have n3_ := Aside0.mk (hbox); have n4_ := Aside0.mk ((by rw [hg]; exact (below_size (by repeat (first | (with_reducible first | exact HB.out | apply below_alloc | apply pw_below_drewN | apply below_drew1 | refine below_set ?_ (IsS100.ge HI143.out) | refine below_set ?_ zal.out) | exact HB.out))) : w.heap.size ≤ zao)); have n5_ := Aside0.mk ((by rw [hg]; exact (below_size (by repeat (first | (with_reducible first | exact HB.out | apply below_alloc | apply pw_below_drewN | apply below_drew1 | refine below_set ?_ (IsS100.ge HI143.out) | refine below_set ?_ zal.out) | exact HB.out))) : w.heap.size ≤ zao)); have n6_ := M.bkL zaj hg; have n7_ := M.bkG zaj hg; have n8_ := Aside0.mk ((by rw [hg]; exact Nat.ne_of_lt (IsS100.lt (show IsS100 w _ g143 t150 t151 t152 t153 from by repeat (first | (with_reducible first | exact HI143.out | apply IsS100.alloc | apply IsS100.drewN | apply IsS100.drew | apply IsS100.set_0 | apply IsS100.set_1 | apply IsS100.set_2 | apply IsS100.set_3 | refine IsS100.far ?_ zam.out _) | exact HI143.out))) : g143 ≠ zao)); have n9_ := Aside0.mk ((by rw [hg]; exact Nat.ne_of_gt (IsS100.lt (show IsS100 w _ g143 t150 t151 t152 t153 from by repeat (first | (with_reducible first | exact HI143.out | apply IsS100.alloc | apply IsS100.drewN | apply IsS100.drew | apply IsS100.set_0 | apply IsS100.set_1 | apply IsS100.set_2 | apply IsS100.set_3 | refine IsS100.far ?_ zam.out _) | exact HI143.out))) : zao ≠ g143)); clear zaj HI143 HB; have zaj := n0_; have HI143 := n1_; have HB := n2_; have zap := n3_; have zaq := n4_; have zar := n5_; have zas := n6_; have zat := n7_; have zau := n8_; have zav := n9_; clear n0_ n1_ n2_ n3_ n4_ n5_ n6_ n7_ n8_ n9_; clear hb hbox hg; have zaw := zat.out; have zax := zas.out; have zay := zav.out; have zaz := zau.out; have zaA : w11.cell? ⟨zao, 0, none⟩ = some (.int .i64 0) := (blk_cell zap.out 0).trans rfl; have zaB : w11.cell? ⟨zao, 1, none⟩ = some (.slice none 0 0) := (blk_cell zap.out 1).trans rfl; have zaC : w11.cell? ⟨zao, 2, none⟩ = some (.string (⟨#[]⟩ : ByteArray)) := (blk_cell zap.out 2).trans rfl; have zaD : w11.cell? ⟨zao, 3, none⟩ = some (.string (⟨#[]⟩ : ByteArray)) := (blk_cell zap.out 3).trans rfl; have zaE := blk_frozen zap.out 0; have zaF := blk_frozen zap.out 1; have zaG := blk_frozen zap.out 2; have zaH := blk_frozen zap.out 3) | ((with_reducible refine gate_callee (f := 32) rfl ?_); refine M.goes (some 16) Tryd.func32 #[.pointer (some ⟨g143, 0, none⟩), .int .i64 2] rfl ?_; (with_reducible refine (scan_Scan_Num.calls g143 t150 t151 t152 t153 2 t155 t156 t157 t158 t159 w _ ?side1 ?side2 A6.out).mono ?_); (case side1 => repeat (first | (with_reducible first | exact HI143.out | apply IsS100.alloc | apply IsS100.drewN | apply IsS100.drew | apply IsS100.set_0 | apply IsS100.set_1 | apply IsS100.set_2 | apply IsS100.set_3 | refine IsS100.far ?_ zam.out _ | refine IsS100.far ?_ zau.out _) | exact HI143.out)); (case side2 => repeat (first | (with_reducible first | exact HB.out | apply below_alloc | apply pw_below_drewN | apply below_drew1 | refine below_set ?_ (IsS100.ge HI143.out) | refine below_set ?_ zal.out | refine below_set ?_ zar.out) | exact HB.out)); rintro e w15 ⟨rfl, hi, hb, hk⟩; refine ⟨_, rfl, ?_⟩; have n0_ := Aside0.mk (KeepBut.blk hk (g' := zai) (o := .cells #[.int .i64 0, .slice none 0 0, .string (⟨#[]⟩ : ByteArray), .string (⟨#[]⟩ : ByteArray)] 24 (0, 0)) (by (with_reducible repeat (first | refine blk_drewN ?_ _ | refine blk_drew ?_ | refine blk_alloc ?_ _)); refine blk_far ?_ zas.out _; (with_reducible repeat (first | refine blk_drewN ?_ _ | refine blk_drew ?_ | refine blk_alloc ?_ _)); refine blk_far ?_ zas.out _; (with_reducible repeat (first | refine blk_drewN ?_ _ | refine blk_drew ?_ | refine blk_alloc ?_ _)); refine blk_far ?_ zas.out _; (with_reducible repeat (first | refine blk_drewN ?_ _ | refine blk_drew ?_ | refine blk_alloc ?_ _)); refine blk_far ?_ zas.out _; (with_reducible repeat (first | refine blk_drewN ?_ _ | refine blk_drew ?_ | refine blk_alloc ?_ _)); exact zaj.out) zan.out (by simp)); have n1_ := Aside0.mk (KeepBut.blk hk (g' := zao) (o := .cells #[.int .i64 t149, .slice none 0 0, .string (⟨#[]⟩ : ByteArray), .string (⟨#[]⟩ : ByteArray)] 24 (0, 0)) (by (with_reducible repeat (first | refine blk_drewN ?_ _ | refine blk_drew ?_ | refine blk_alloc ?_ _)); refine blk_put (cs := #[.int .i64 t149, .slice none 0 0, .string (⟨#[]⟩ : ByteArray), .string (⟨#[]⟩ : ByteArray)]) ?_ 3 _ rfl; (with_reducible repeat (first | refine blk_drewN ?_ _ | refine blk_drew ?_ | refine blk_alloc ?_ _)); refine blk_put (cs := #[.int .i64 t149, .slice none 0 0, .string (⟨#[]⟩ : ByteArray), .string (⟨#[]⟩ : ByteArray)]) ?_ 2 _ rfl; (with_reducible repeat (first | refine blk_drewN ?_ _ | refine blk_drew ?_ | refine blk_alloc ?_ _)); refine blk_put (cs := #[.int .i64 t149, .slice none 0 0, .string (⟨#[]⟩ : ByteArray), .string (⟨#[]⟩ : ByteArray)]) ?_ 1 _ rfl; (with_reducible repeat (first | refine blk_drewN ?_ _ | refine blk_drew ?_ | refine blk_alloc ?_ _)); refine blk_put (cs := #[.int .i64 0, .slice none 0 0, .string (⟨#[]⟩ : ByteArray), .string (⟨#[]⟩ : ByteArray)]) ?_ 0 _ rfl; (with_reducible repeat (first | refine blk_drewN ?_ _ | refine blk_drew ?_ | refine blk_alloc ?_ _)); exact zap.out) zav.out (by simp)); have n2_ := Aside0.mk (hb); have n3_ := Aside0.mk (hi); clear zaj zap HB HI143; have zaj := n0_; have zap := n1_; have HB := n2_; have HI143 := n3_; clear n0_ n1_ n2_ n3_; (try clear hb); (try clear hk); (try clear hi)))
    go_loopg [17] k (fun kq v17 w' => ∃ (x17_1 : Int) (zaI : ByteArray) (zaJ : Int) (zaK : Int) (zaL : Bool) (zaM : List ByteArray) (zaN : Value), v17 = .int .i64 x17_1 ∧ Aside0 (commit_Take_p.l0 kq t155 x17_1 zaI zaJ zaK zaL t149 zaM (⟨#[]⟩ : ByteArray) (⟨#[]⟩ : ByteArray) = some (r1, r2, r3, r4, r5)) ∧ Aside0 (kq ≤ k) ∧ Aside0 (Kd.R Kd.string 9 w' w.heap.size (fun _ => True) zaN zaM) ∧ Aside0 (w'.heap[zai]? = some (.cells #[.int .i64 0, (.slice none 0 0), .string (⟨#[]⟩ : ByteArray), .string (⟨#[]⟩ : ByteArray)] 24 (0, 0))) ∧ Aside0 (w'.heap[zao]? = some (.cells #[.int .i64 t149, zaN, .string (⟨#[]⟩ : ByteArray), .string (⟨#[]⟩ : ByteArray)] 24 (0, 0))) ∧ Aside0 (IsS100 w w' g143 zaI zaJ zaK zaL) ∧ Aside0 (Below w.heap.size w w'))
    case atStart => exact ⟨(0), (t156), (t157), (t158), (t159), (([] : List ByteArray)), (.slice none 0 0), (by first | rfl | (simp; done) | (simp [*]; done) | (simp [M.isEmpty_bne]; done)), H', ⟨Nat.le_refl _⟩, ⟨by first | exact Kd.R_nil _ _ _ _ _ | exact Kd.N_nil _ _ _ _ _ | exact Kd.V_nil _ _ _ _ _ | exact Kd.Q_nil _ _ _ _ _ | exact Kd.S_nil _ _ _ _ _⟩, ⟨by (with_reducible repeat (first | refine blk_drewN ?_ _ | refine blk_drew ?_ | refine blk_alloc ?_ _)); exact zaj.out⟩, ⟨by (with_reducible repeat (first | refine blk_drewN ?_ _ | refine blk_drew ?_ | refine blk_alloc ?_ _)); exact zap.out⟩, ⟨by repeat (first | (with_reducible first | exact HI143.out | apply IsS100.alloc | apply IsS100.drewN | apply IsS100.drew | apply IsS100.set_0 | apply IsS100.set_1 | apply IsS100.set_2 | apply IsS100.set_3 | refine IsS100.far ?_ zam.out _ | refine IsS100.far ?_ zau.out _) | exact HI143.out)⟩, ⟨by repeat (first | (with_reducible first | exact HB.out | apply below_alloc | apply pw_below_drewN | apply below_drew1 | refine below_set ?_ (IsS100.ge HI143.out) | refine below_set ?_ zal.out | refine below_set ?_ zar.out) | exact HB.out)⟩⟩
    case round =>
      clear H'
      try clear c1
      try clear p2
      try clear c3
      try clear c4
      try clear c4b0
      try clear c4b1
      try clear c9
      try clear c12
      try clear c13
      try clear zaA
      try clear zaB
      try clear zaC
      try clear zaD
      try clear zaE
      try clear zaF
      try clear zaG
      try clear zaH
      obtain ⟨x17_1, zaI, zaJ, zaK, zaL, zaM, zaN, rfl, HA, HK1, zaO, zaj, zap, HI143, HB⟩ := hrel
      cases gk with
      | zero => exact absurd HA.out (by simp [commit_Take_p.l0])
      | succ k1 =>
        have H := HA.out
        clear HA
        simp only [commit_Take_p.l0] at H
        by_cases c16 : x17_1 < t155
        · rw [if_pos c16] at H
          have c16b0 : decide (x17_1 < t155) = true := decide_eq_true c16
          clear c16
          replace H := Option.bind_eq_some_iff.mp H
          obtain ⟨⟨t160, t161, t162, t163, t164⟩, A170, H⟩ := H
          replace H : (if zaM.length < 8796093022208 then (commit_Take_p.l0 k1 t155 (wrap64 (x17_1 + 1)) t161 t162 t163 t164 t149 (zaM ++ [t160]) (⟨#[]⟩ : ByteArray) (⟨#[]⟩ : ByteArray)) else (none)) = some (r1, r2, r3, r4, r5) := H
          have A17 := Aside0.mk A170
          clear A170
          by_cases c18 : zaM.length < 8796093022208
          · rw [if_pos c18] at H
            have LMc18 := Aside0.mk c18
            clear c18
            obtain ⟨y165, hy165⟩ : ∃ y_ : List ByteArray, y_ = (zaM ++ [t160]) := ⟨_, rfl⟩
            replace H : (commit_Take_p.l0 k1 t155 (wrap64 (x17_1 + 1)) t161 t162 t163 t164 t149 y165 (⟨#[]⟩ : ByteArray) (⟨#[]⟩ : ByteArray)) = some (r1, r2, r3, r4, r5) := by first | (rw [hy165]; with_reducible exact H) | (have H2_ := (Option.bind_some _ _).symm.trans H; rw [hy165]; with_reducible exact H2_) | (have H2_ := (Option.bind_some _ _).symm.trans H; with_reducible exact H2_) | with_reducible exact H | (rw [hy165]; exact H) | exact H
            have Ny165 := Aside0.mk hy165
            clear hy165
            have H' := Aside0.mk H
            clear H
            try go_wp2
            have n0_ := Aside0.mk (Kd.R_drew zaO.out)
            have n1_ := Aside0.mk (blk_drew zaj.out)
            have n2_ := Aside0.mk (blk_drew zap.out)
            have n3_ := Aside0.mk (IsS100.drew HI143.out)
            have n4_ := Aside0.mk (below_drew1 HB.out)
            clear zaO zaj zap HI143 HB
            have zaO := n0_
            have zaj := n1_
            have zap := n2_
            have HI143 := n3_
            have HB := n4_
            clear n0_ n1_ n2_ n3_ n4_
            refine start_ (n := 8) (S := fun w' => w'.cell? ⟨zao, 0, none⟩ = some (.int .i64 t149) ∧ w'.cell? ⟨zao, 1, none⟩ = some (zaN) ∧ w'.cell? ⟨zao, 2, none⟩ = some (.string (⟨#[]⟩ : ByteArray)) ∧ w'.cell? ⟨zao, 3, none⟩ = some (.string (⟨#[]⟩ : ByteArray))) (ds := [7]) #[false, false, false, false, false, false, false, false] (by kernel_rfl) rfl rfl ⟨(blk_cell zap.out 0).trans rfl, (blk_cell zap.out 1).trans rfl, (blk_cell zap.out 2).trans rfl, (blk_cell zap.out 3).trans rfl⟩ (fun hHeld => ?_); refine with_tabW commit_Take_p.tab7 commit_Take_p.bits7 (fun HT_ HW_ => ?_)
            generalize wr.drew = w19 at zaO zaj zap HI143 HB hHeld ⊢
            refine pure_ (i := 0) (N := some 19) (v := ?_) (a' := ?_) #[true, false, false, false, false, false, false, false] rfl rfl (any_of HT_.out (by kernel_rfl)) (fun _ _ _ h => h) (Or.inl ⟨by rfl, ?_⟩) ?_ ?_
            rotate_left
            · intro w'
              go_simp
              with_reducible rfl
            rotate_left
            · simp only [Act.put, List.setIfInBounds_toArray, List.set_cons_zero, List.set_cons_succ, i64_w, i32_w]
              rfl
            refine pure_ (i := 2) (N := some 21) (v := ?_) (a' := ?_) #[true, false, true, false, false, false, false, false] rfl rfl (any_of HT_.out (by kernel_rfl)) (fun _ _ _ h => h) (Or.inl ⟨by rfl, ?_⟩) ?_ ?_
            rotate_left
            · intro w'
              go_simp
              with_reducible rfl
            rotate_left
            · simp only [Act.put, List.setIfInBounds_toArray, List.set_cons_zero, List.set_cons_succ, i64_w, i32_w]
              rfl
            refine take_ (i := 1) (N := some 20) (v := ?_) (a' := ?_) #[true, true, true, false, false, false, false, false] rfl rfl (take_ofW HT_.out HW_.out (by kernel_rfl)) (fun _ _ _ h => h) (Or.inl ⟨by rfl, ?_⟩) hHeld ?_ ?_
            rotate_left
            · rintro w' ⟨s0, s1, s2, s3⟩
              go_simp
              with_reducible rfl
            rotate_left
            · simp only [Act.put, List.setIfInBounds_toArray, List.set_cons_zero, List.set_cons_succ, i64_w, i32_w]
              rfl
            refine one_ (i := 3) (N := some 22) #[true, true, true, true, false, false, false, false] rfl rfl (one_of HT_.out (by kernel_rfl)) (by decide) (fun K hK => ?_)
            refine goes_ Tryd.func33 (by kernel_rfl) rfl #[.pointer (some ⟨g143, 0, none⟩), .int .i64 32] (by rfl) rfl rfl (by (try simp only [List.map_toArray, List.map_cons, List.map_nil]); first | done | rfl | (simp only [List.length_drop, List.length_take]; rfl)) ?_
            with_reducible refine (scan_Scan_Fix.calls g143 zaI zaJ zaK zaL 32 t160 t161 t162 t163 t164 w _ ?side1 ?side2 A17.out).mono ?_
            (case side1 => repeat (first | (with_reducible first | exact HI143.out | apply IsS100.alloc | apply IsS100.drewN | apply IsS100.drew | apply IsS100.set_0 | apply IsS100.set_1 | apply IsS100.set_2 | apply IsS100.set_3 | refine IsS100.far ?_ zam.out _ | refine IsS100.far ?_ zau.out _) | exact HI143.out))
            (case side2 => repeat (first | (with_reducible first | exact HB.out | apply below_alloc | apply pw_below_drewN | apply below_drew1 | refine below_set ?_ (IsS100.ge HI143.out) | refine below_set ?_ zal.out | refine below_set ?_ zar.out) | exact HB.out))
            rintro e w20 ⟨rfl, hi, hb, hk⟩
            refine ⟨_, rfl, ?_⟩
            have n0_ := Aside0.mk (Kd.R_mono (Kd.R_keep (IsS100.apart (show IsS100 w _ g143 zaI zaJ zaK zaL from by repeat (first | (with_reducible first | exact HI143.out | apply IsS100.alloc | apply IsS100.drewN | apply IsS100.drew | apply IsS100.set_0 | apply IsS100.set_1 | apply IsS100.set_2 | apply IsS100.set_3 | refine IsS100.far ?_ zam.out _ | refine IsS100.far ?_ zau.out _) | exact HI143.out)) (M.ro zaO) (by decide)) hk (fun _ h => h.2)) (fun _ h => h.1))
            have n1_ := Aside0.mk (KeepBut.blk hk (g' := zai) (o := .cells #[.int .i64 0, .slice none 0 0, .string (⟨#[]⟩ : ByteArray), .string (⟨#[]⟩ : ByteArray)] 24 (0, 0)) (M.bk zaj) zan.out (by simp))
            have n2_ := Aside0.mk (KeepBut.blk hk (g' := zao) (o := .cells #[.int .i64 t149, zaN, .string (⟨#[]⟩ : ByteArray), .string (⟨#[]⟩ : ByteArray)] 24 (0, 0)) (M.bk zap) zav.out (by simp))
            have n3_ := Aside0.mk (hb)
            have n4_ := Aside0.mk (hi)
            clear zaO zaj zap HB HI143
            have zaO := n0_
            have zaj := n1_
            have zap := n2_
            have HB := n3_
            have HI143 := n4_
            clear n0_ n1_ n2_ n3_ n4_
            (try clear hb)
            (try clear hb2)
            (try clear hk)
            (try clear hi)
            refine hK.out _ _ ⟨(blk_cell zap.out 0).trans rfl, (blk_cell zap.out 1).trans rfl, (blk_cell zap.out 2).trans rfl, (blk_cell zap.out 3).trans rfl⟩ (fun hHeld => ?_)
            clear hK K
            refine norm_ (a' := ?_) ?_ ?_
            rotate_left
            · show Act.put _ (some 22) _ = _
              simp only [Act.put, List.setIfInBounds_toArray, List.set_cons_zero, List.set_cons_succ, i64_w, i32_w]
              rfl
            refine one_ (i := 4) (N := some 23) #[true, true, true, true, true, false, false, false] rfl rfl (one_of HT_.out (by kernel_rfl)) (by decide) (fun K hK => ?_)
            refine value_ (w1 := ?_) (v := ?_) (by rfl) rfl ?_ ?_
            rotate_left 2
            · go_simp
              constructor
              · rfl
              · rfl
            refine hK.out _ _ ⟨(blk_cell (blk_alloc zap.out _) 0).trans rfl, (blk_cell (blk_alloc zap.out _) 1).trans rfl, (blk_cell (blk_alloc zap.out _) 2).trans rfl, (blk_cell (blk_alloc zap.out _) 3).trans rfl⟩ (fun hHeld => ?_)
            clear hK K
            refine norm_ (a' := ?_) ?_ ?_
            rotate_left
            · show Act.put _ (some 23) _ = _
              simp only [Act.put, List.setIfInBounds_toArray, List.set_cons_zero, List.set_cons_succ, i64_w, i32_w]
              rfl
            refine one_ (i := 5) (N := some 24) #[true, true, true, true, true, true, false, false] rfl rfl (one_of HT_.out (by kernel_rfl)) (by decide) (fun K hK => ?_)
            refine Kd.R_append_step Kd.string (w0 := w) w.heap.size (by rfl) (.tmp 20) (.tmp 23) 22 9 (.string ⟨#[]⟩) 16 rfl Tryd.underlying22 info9 rfl (by decide) (by omega) zaN zaM t160 [.string t160] (fun _ => True) (fun _ => False) rfl rfl ?aP (fun _ hk => hk.elim) ?aF ?aO ?aB ?aS ?aL ?_
            (case aP => exact rfl)
            (case aB => exact (by repeat (first | (with_reducible first | exact HB.out | apply below_alloc | apply pw_below_drewN | apply below_drew1 | refine below_set ?_ (IsS100.ge HI143.out) | refine below_set ?_ zal.out | refine below_set ?_ zar.out) | exact HB.out)))
            (case aF => exact (fun _ _ => trivial))
            (case aO => exact (M.ro zaO))
            (case aS => exact (below_size (by repeat (first | (with_reducible first | exact HB.out | apply below_alloc | apply pw_below_drewN | apply below_drew1 | refine below_set ?_ (IsS100.ge HI143.out) | refine below_set ?_ zal.out | refine below_set ?_ zar.out) | exact HB.out))))
            (case aL => have := LMc18.out; omega)
            intro v166 w21 ho hb hg hat
            rw [← Ny165.out] at ho
            have n0_ := Aside0.mk (blk_grown (g := zai) (o := .cells #[.int .i64 0, .slice none 0 0, .string (⟨#[]⟩ : ByteArray), .string (⟨#[]⟩ : ByteArray)] 24 (0, 0)) (M.bk zaj) hg (Kd.R_ne zaO.out zaj.out (by decide)))
            have n1_ := Aside0.mk (blk_grown (g := zao) (o := .cells #[.int .i64 t149, zaN, .string (⟨#[]⟩ : ByteArray), .string (⟨#[]⟩ : ByteArray)] 24 (0, 0)) (M.bk zap) hg (Kd.R_ne zaO.out zap.out (by decide)))
            have n2_ := Aside0.mk (IsS100.grown (by first | exact HI143.out | exact IsS100.far HI143.out zam.out _ | exact IsS100.far HI143.out zau.out _ | (repeat (first | (with_reducible first | exact HI143.out | apply IsS100.alloc | apply IsS100.drewN | apply IsS100.drew | apply IsS100.set_0 | apply IsS100.set_1 | apply IsS100.set_2 | apply IsS100.set_3 | refine IsS100.far ?_ zam.out _ | refine IsS100.far ?_ zau.out _) | exact HI143.out))) hg (IsS100.own_ne HI143.out zaO.out (by decide)))
            have n3_ := Aside0.mk (hb)
            have n4_ := Aside0.mk (ho)
            clear zaj zap HI143 HB zaO
            have zaj := n0_
            have zap := n1_
            have HI143 := n2_
            have HB := n3_
            have HO167 := n4_
            clear n0_ n1_ n2_ n3_ n4_
            clear ho hb hg hat
            obtain ⟨Ao22, co22, eo22⟩ := Kd.R_slice HO167.out
            (first | subst eo22 | (injection eo22 with f1_ f2_ f3_; have f4_ := f1_.symm; have f5_ := f3_.symm; clear f1_ f2_ f3_; subst f4_; subst f5_))
            refine hK.out _ _ ⟨(blk_cell zap.out 0).trans rfl, (blk_cell zap.out 1).trans rfl, (blk_cell zap.out 2).trans rfl, (blk_cell zap.out 3).trans rfl⟩ (fun hHeld => ?_)
            clear hK K
            refine norm_ (a' := ?_) ?_ ?_
            rotate_left
            · show Act.put _ (some 24) _ = _
              simp only [Act.put, List.setIfInBounds_toArray, List.set_cons_zero, List.set_cons_succ, i64_w, i32_w]
              rfl
            refine pure_ (i := 6) (N := some 25) (v := ?_) (a' := ?_) #[true, true, true, true, true, true, true, false] rfl rfl (any_of HT_.out (by kernel_rfl)) (fun _ _ _ h => h) (Or.inl ⟨by rfl, ?_⟩) ?_ ?_
            rotate_left
            · intro w'
              go_simp
              with_reducible rfl
            rotate_left
            · simp only [Act.put, List.setIfInBounds_toArray, List.set_cons_zero, List.set_cons_succ, i64_w, i32_w]
              rfl
            refine last_ (i := 7) (N := none) #[true, true, true, true, true, true, true, true] rfl rfl (one_of HT_.out (by kernel_rfl)) (by decide) (fun K hK => ?_)
            have hs23 : w21.cell? ⟨zao, 1, none⟩ = some (zaN) := (blk_cell zap.out 1).trans rfl
            have hfs23 := blk_frozen zap.out 1
            have hns23_0 := zas.out
            have hms23_0 := zat.out
            refine skip_ (w1 := ?_) (by rfl) rfl ?_ ?_
            rotate_left
            · go_simp
              rfl
            refine hK.out _ _ ?_
            clear hK K
            refine done_ (done_of HT_.out (by kernel_rfl)) ?_
            try go_wp2
            go_roundg k1
            case measure => have := HK1.out; omega
            case rel => exact ⟨(wrap64 (x17_1 + 1)), (t161), (t162), (t163), (t164), (y165), (.slice Ao22 y165.length co22), (by first | rfl | (simp; done) | (simp [*]; done) | (simp [M.isEmpty_bne]; done)), H', ⟨by have := HK1.out; omega⟩, ⟨by (with_reducible repeat (first | apply Kd.R_alloc | apply Kd.R_drewN | apply Kd.R_drew)); exact Kd.R_mono (Kd.R_far (p := ⟨zao, 1, none⟩) (Kd.R_types HO167.out zap.out (by decide)) (fun _ hk => hk.2) (.slice Ao22 y165.length co22)) (fun _ hk => trivial)⟩, ⟨by (with_reducible repeat (first | refine blk_drewN ?_ _ | refine blk_drew ?_ | refine blk_alloc ?_ _)); refine blk_far ?_ zas.out _; (with_reducible repeat (first | refine blk_drewN ?_ _ | refine blk_drew ?_ | refine blk_alloc ?_ _)); exact zaj.out⟩, ⟨by (with_reducible repeat (first | refine blk_drewN ?_ _ | refine blk_drew ?_ | refine blk_alloc ?_ _)); refine blk_put (cs := #[.int .i64 t149, zaN, .string (⟨#[]⟩ : ByteArray), .string (⟨#[]⟩ : ByteArray)]) ?_ 1 _ rfl; (with_reducible repeat (first | refine blk_drewN ?_ _ | refine blk_drew ?_ | refine blk_alloc ?_ _)); exact zap.out⟩, ⟨by repeat (first | (with_reducible first | exact HI143.out | apply IsS100.alloc | apply IsS100.drewN | apply IsS100.drew | apply IsS100.set_0 | apply IsS100.set_1 | apply IsS100.set_2 | apply IsS100.set_3 | refine IsS100.far ?_ zam.out _ | refine IsS100.far ?_ zau.out _) | exact HI143.out)⟩, ⟨by repeat (first | (with_reducible first | exact HB.out | apply below_alloc | apply pw_below_drewN | apply below_drew1 | refine below_set ?_ (IsS100.ge HI143.out) | refine below_set ?_ zal.out | refine below_set ?_ zar.out) | exact HB.out)⟩⟩
          · rw [if_neg c18] at H
            exact absurd H (by simp)
        · rw [if_neg c16] at H
          have c16b0 : decide (x17_1 < t155) = false := decide_eq_false c16
          clear c16
          replace H := Option.bind_eq_some_iff.mp H
          obtain ⟨⟨t168, t169, t170, t171, t172⟩, A240, H⟩ := H
          replace H : ((scan_Scan_Text.f t169 t170 t171 t172 40).bind fun bt173 => ((scan_Scan_End.f bt173.2.1 bt173.2.2.1 bt173.2.2.2.1 bt173.2.2.2.2).bind fun bt178 => (if bt178.1 = 0 then ((commit_Check.f t149 zaM t168 bt173.1).bind fun t183 => (if t183 = 0 then (some (t149, zaM, t168, bt173.1, 0)) else (some (0, ([] : List ByteArray), (⟨#[]⟩ : ByteArray), (⟨#[]⟩ : ByteArray), 3)))) else (some (0, ([] : List ByteArray), (⟨#[]⟩ : ByteArray), (⟨#[]⟩ : ByteArray), 3))))) = some (r1, r2, r3, r4, r5) := H
          have A24 := Aside0.mk A240
          clear A240
          replace H := Option.bind_eq_some_iff.mp H
          obtain ⟨⟨t173, t174, t175, t176, t177⟩, A250, H⟩ := H
          replace H : ((scan_Scan_End.f t174 t175 t176 t177).bind fun bt178 => (if bt178.1 = 0 then ((commit_Check.f t149 zaM t168 t173).bind fun t183 => (if t183 = 0 then (some (t149, zaM, t168, t173, 0)) else (some (0, ([] : List ByteArray), (⟨#[]⟩ : ByteArray), (⟨#[]⟩ : ByteArray), 3)))) else (some (0, ([] : List ByteArray), (⟨#[]⟩ : ByteArray), (⟨#[]⟩ : ByteArray), 3)))) = some (r1, r2, r3, r4, r5) := H
          have A25 := Aside0.mk A250
          clear A250
          replace H := Option.bind_eq_some_iff.mp H
          obtain ⟨⟨t178, t179, t180, t181, t182⟩, A260, H⟩ := H
          replace H : (if t178 = 0 then ((commit_Check.f t149 zaM t168 t173).bind fun t183 => (if t183 = 0 then (some (t149, zaM, t168, t173, 0)) else (some (0, ([] : List ByteArray), (⟨#[]⟩ : ByteArray), (⟨#[]⟩ : ByteArray), 3)))) else (some (0, ([] : List ByteArray), (⟨#[]⟩ : ByteArray), (⟨#[]⟩ : ByteArray), 3))) = some (r1, r2, r3, r4, r5) := H
          have A26 := Aside0.mk A260
          clear A260
          by_cases c27 : t178 = 0
          · rw [if_pos c27] at H
            have c27b0 : (t178 == 0) = true := beq_iff_eq.mpr c27
            have c27b1 : (t178 != 0) = false := bne_eq_false_iff_eq.mpr c27
            clear c27
            replace H := Option.bind_eq_some_iff.mp H
            obtain ⟨t183, A280, H⟩ := H
            replace H : (if t183 = 0 then (some (t149, zaM, t168, t173, 0)) else (some (0, ([] : List ByteArray), (⟨#[]⟩ : ByteArray), (⟨#[]⟩ : ByteArray), 3))) = some (r1, r2, r3, r4, r5) := H
            have A28 := Aside0.mk A280
            clear A280
            by_cases c29 : t183 = 0
            · rw [if_pos c29] at H
              have c29b0 : (t183 == 0) = true := beq_iff_eq.mpr c29
              have c29b1 : (t183 != 0) = false := bne_eq_false_iff_eq.mpr c29
              clear c29
              simp only [Option.some.injEq, Prod.mk.injEq] at H
              obtain ⟨rfl, rfl, rfl, rfl, rfl⟩ := H
              go_wp2_with (first | ((with_reducible refine gate_callee (f := 33) rfl ?_); refine M.goes (some 28) Tryd.func33 #[.pointer (some ⟨g143, 0, none⟩), .int .i64 32] rfl ?_; (with_reducible refine (scan_Scan_Fix.calls g143 zaI zaJ zaK zaL 32 t168 t169 t170 t171 t172 w _ ?side1 ?side2 A24.out).mono ?_); (case side1 => repeat (first | (with_reducible first | exact HI143.out | apply IsS100.alloc | apply IsS100.drewN | apply IsS100.drew | apply IsS100.set_0 | apply IsS100.set_1 | apply IsS100.set_2 | apply IsS100.set_3 | refine IsS100.far ?_ zam.out _ | refine IsS100.far ?_ zau.out _) | exact HI143.out)); (case side2 => repeat (first | (with_reducible first | exact HB.out | apply below_alloc | apply pw_below_drewN | apply below_drew1 | refine below_set ?_ (IsS100.ge HI143.out) | refine below_set ?_ zal.out | refine below_set ?_ zar.out) | exact HB.out)); rintro e w30 ⟨rfl, hi, hb, hk⟩; refine ⟨_, rfl, ?_⟩; have n0_ := Aside0.mk (Kd.R_mono (Kd.R_keep (IsS100.apart (show IsS100 w _ g143 zaI zaJ zaK zaL from by repeat (first | (with_reducible first | exact HI143.out | apply IsS100.alloc | apply IsS100.drewN | apply IsS100.drew | apply IsS100.set_0 | apply IsS100.set_1 | apply IsS100.set_2 | apply IsS100.set_3 | refine IsS100.far ?_ zam.out _ | refine IsS100.far ?_ zau.out _) | exact HI143.out)) (M.ro zaO) (by decide)) hk (fun _ h => h.2)) (fun _ h => h.1)); have n1_ := Aside0.mk (KeepBut.blk hk (g' := zai) (o := .cells #[.int .i64 0, .slice none 0 0, .string (⟨#[]⟩ : ByteArray), .string (⟨#[]⟩ : ByteArray)] 24 (0, 0)) (M.bk zaj) zan.out (by simp)); have n2_ := Aside0.mk (KeepBut.blk hk (g' := zao) (o := .cells #[.int .i64 t149, zaN, .string (⟨#[]⟩ : ByteArray), .string (⟨#[]⟩ : ByteArray)] 24 (0, 0)) (M.bk zap) zav.out (by simp)); have n3_ := Aside0.mk (hb); have n4_ := Aside0.mk (hi); clear zaO zaj zap HB HI143; have zaO := n0_; have zaj := n1_; have zap := n2_; have HB := n3_; have HI143 := n4_; clear n0_ n1_ n2_ n3_ n4_; (try clear hb); (try clear hk); (try clear hi)) | ((with_reducible refine gate_callee (f := 34) rfl ?_); refine M.goes (some 30) Tryd.func34 #[.pointer (some ⟨g143, 0, none⟩), .int .i64 40] rfl ?_; (with_reducible refine (scan_Scan_Text.calls g143 t169 t170 t171 t172 40 t173 t174 t175 t176 t177 w _ ?side1 ?side2 A25.out).mono ?_); (case side1 => repeat (first | (with_reducible first | exact HI143.out | apply IsS100.alloc | apply IsS100.drewN | apply IsS100.drew | apply IsS100.set_0 | apply IsS100.set_1 | apply IsS100.set_2 | apply IsS100.set_3 | refine IsS100.far ?_ zam.out _ | refine IsS100.far ?_ zau.out _) | exact HI143.out)); (case side2 => repeat (first | (with_reducible first | exact HB.out | apply below_alloc | apply pw_below_drewN | apply below_drew1 | refine below_set ?_ (IsS100.ge HI143.out) | refine below_set ?_ zal.out | refine below_set ?_ zar.out) | exact HB.out)); rintro e w31 ⟨rfl, hi, hb, hk⟩; refine ⟨_, rfl, ?_⟩; have n0_ := Aside0.mk (Kd.R_mono (Kd.R_keep (IsS100.apart (show IsS100 w _ g143 t169 t170 t171 t172 from by repeat (first | (with_reducible first | exact HI143.out | apply IsS100.alloc | apply IsS100.drewN | apply IsS100.drew | apply IsS100.set_0 | apply IsS100.set_1 | apply IsS100.set_2 | apply IsS100.set_3 | refine IsS100.far ?_ zam.out _ | refine IsS100.far ?_ zau.out _) | exact HI143.out)) (M.ro zaO) (by decide)) hk (fun _ h => h.2)) (fun _ h => h.1)); have n1_ := Aside0.mk (KeepBut.blk hk (g' := zai) (o := .cells #[.int .i64 0, .slice none 0 0, .string (⟨#[]⟩ : ByteArray), .string (⟨#[]⟩ : ByteArray)] 24 (0, 0)) (M.bk zaj) zan.out (by simp)); have n2_ := Aside0.mk (KeepBut.blk hk (g' := zao) (o := .cells #[.int .i64 t149, zaN, .string (⟨#[]⟩ : ByteArray), .string (⟨#[]⟩ : ByteArray)] 24 (0, 0)) (M.bk zap) zav.out (by simp)); have n3_ := Aside0.mk (hb); have n4_ := Aside0.mk (hi); clear zaO zaj zap HB HI143; have zaO := n0_; have zaj := n1_; have zap := n2_; have HB := n3_; have HI143 := n4_; clear n0_ n1_ n2_ n3_ n4_; (try clear hb); (try clear hk); (try clear hi); have zaP := zat.out; have zaQ := zas.out; have zaR := zav.out; have zaS := zau.out; have zaT : w31.cell? ⟨zao, 0, none⟩ = some (.int .i64 t149) := (blk_cell zap.out 0).trans rfl; have zaU : w31.cell? ⟨zao, 1, none⟩ = some (zaN) := (blk_cell zap.out 1).trans rfl; have zaV : w31.cell? ⟨zao, 2, none⟩ = some (.string (⟨#[]⟩ : ByteArray)) := (blk_cell zap.out 2).trans rfl; have zaW : w31.cell? ⟨zao, 3, none⟩ = some (.string (⟨#[]⟩ : ByteArray)) := (blk_cell zap.out 3).trans rfl; have zaX := blk_frozen zap.out 0; have zaY := blk_frozen zap.out 1; have zaZ := blk_frozen zap.out 2; have za0 := blk_frozen zap.out 3) | ((with_reducible refine gate_callee (f := 35) rfl ?_); refine M.goes (some 34) Tryd.func35 #[.pointer (some ⟨g143, 0, none⟩)] rfl ?_; (with_reducible refine (scan_Scan_End.calls g143 t174 t175 t176 t177 t178 t179 t180 t181 t182 w _ ?side1 ?side2 A26.out).mono ?_); (case side1 => repeat (first | (with_reducible first | exact HI143.out | apply IsS100.alloc | apply IsS100.drewN | apply IsS100.drew | apply IsS100.set_0 | apply IsS100.set_1 | apply IsS100.set_2 | apply IsS100.set_3 | refine IsS100.far ?_ zam.out _ | refine IsS100.far ?_ zau.out _) | exact HI143.out)); (case side2 => repeat (first | (with_reducible first | exact HB.out | apply below_alloc | apply pw_below_drewN | apply below_drew1 | refine below_set ?_ (IsS100.ge HI143.out) | refine below_set ?_ zal.out | refine below_set ?_ zar.out) | exact HB.out)); rintro e w35 ⟨rfl, hi, hb, hk⟩; refine ⟨_, rfl, ?_⟩; have n0_ := Aside0.mk (Kd.R_mono (Kd.R_keep (IsS100.apart (show IsS100 w _ g143 t174 t175 t176 t177 from by repeat (first | (with_reducible first | exact HI143.out | apply IsS100.alloc | apply IsS100.drewN | apply IsS100.drew | apply IsS100.set_0 | apply IsS100.set_1 | apply IsS100.set_2 | apply IsS100.set_3 | refine IsS100.far ?_ zam.out _ | refine IsS100.far ?_ zau.out _) | exact HI143.out)) (by (with_reducible repeat (first | apply Kd.R_alloc | apply Kd.R_drewN | apply Kd.R_drew)); exact (Kd.R_mono (Kd.R_far (p := ⟨zao, 3, none⟩) (Kd.R_far (p := ⟨zao, 2, none⟩) (Kd.R_types zaO.out zap.out (by decide)) (fun _ hk => hk.2) (.string t168)) (fun _ hk => hk.2) (.string t173)) (fun _ h_ => h_.1))) (by decide)) hk (fun _ h => h.2)) (fun _ h => h.1)); have n1_ := Aside0.mk (KeepBut.blk hk (g' := zai) (o := .cells #[.int .i64 0, .slice none 0 0, .string (⟨#[]⟩ : ByteArray), .string (⟨#[]⟩ : ByteArray)] 24 (0, 0)) (by (with_reducible repeat (first | refine blk_drewN ?_ _ | refine blk_drew ?_ | refine blk_alloc ?_ _)); refine blk_far ?_ zas.out _; (with_reducible repeat (first | refine blk_drewN ?_ _ | refine blk_drew ?_ | refine blk_alloc ?_ _)); refine blk_far ?_ zas.out _; (with_reducible repeat (first | refine blk_drewN ?_ _ | refine blk_drew ?_ | refine blk_alloc ?_ _)); exact zaj.out) zan.out (by simp)); have n2_ := Aside0.mk (KeepBut.blk hk (g' := zao) (o := .cells #[.int .i64 t149, zaN, .string t168, .string t173] 24 (0, 0)) (by (with_reducible repeat (first | refine blk_drewN ?_ _ | refine blk_drew ?_ | refine blk_alloc ?_ _)); refine blk_put (cs := #[.int .i64 t149, zaN, .string t168, .string (⟨#[]⟩ : ByteArray)]) ?_ 3 _ rfl; (with_reducible repeat (first | refine blk_drewN ?_ _ | refine blk_drew ?_ | refine blk_alloc ?_ _)); refine blk_put (cs := #[.int .i64 t149, zaN, .string (⟨#[]⟩ : ByteArray), .string (⟨#[]⟩ : ByteArray)]) ?_ 2 _ rfl; (with_reducible repeat (first | refine blk_drewN ?_ _ | refine blk_drew ?_ | refine blk_alloc ?_ _)); exact zap.out) zav.out (by simp)); have n3_ := Aside0.mk (hb); have n4_ := Aside0.mk (hi); clear zaO zaj zap HB HI143; have zaO := n0_; have zaj := n1_; have zap := n2_; have HB := n3_; have HI143 := n4_; clear n0_ n1_ n2_ n3_ n4_; (try clear hb); (try clear hk); (try clear hi); have za1 : w35.cell? ⟨zao, 0, none⟩ = some (.int .i64 t149) := (blk_cell zap.out 0).trans rfl; have za2 : w35.cell? ⟨zao, 1, none⟩ = some (zaN) := (blk_cell zap.out 1).trans rfl; have za3 : w35.cell? ⟨zao, 2, none⟩ = some (.string t168) := (blk_cell zap.out 2).trans rfl; have za4 : w35.cell? ⟨zao, 3, none⟩ = some (.string t173) := (blk_cell zap.out 3).trans rfl; have za5 := blk_frozen zap.out 0; have za6 := blk_frozen zap.out 1; have za7 := blk_frozen zap.out 2; have za8 := blk_frozen zap.out 3; obtain ⟨Ao37, co37, eo37⟩ := Kd.R_slice zaO.out; subst eo37) | (go_at_call 18; (with_reducible refine (commit_Check.calls t149 _ _ zaM t168 t173 t183 _ ?side1 ?side2 A28.out).mono ?_); (case side1 => repeat (first | exact (Kd.R_reads' zaO.out).2.2 | (with_reducible refine Kd.C_alloc ?_ _) | (with_reducible refine Kd.C_drewN ?_ _) | (with_reducible refine Kd.C_drew ?_))); (case side2 => exact (Kd.R_reads' zaO.out).2.1); rintro e w38 ⟨rfl, hb⟩; have n0_ := M.roB zaO hb; have n1_ := M.bkB zaj hb; have n2_ := M.bkB zap hb; have n3_ := Aside0.mk (IsS100.below (by repeat (first | (with_reducible first | exact HI143.out | apply IsS100.alloc | apply IsS100.drewN | apply IsS100.drew | apply IsS100.set_0 | apply IsS100.set_1 | apply IsS100.set_2 | apply IsS100.set_3 | refine IsS100.far ?_ zam.out _ | refine IsS100.far ?_ zau.out _) | exact HI143.out)) hb); have n4_ := Aside0.mk (below_step (by repeat (first | (with_reducible first | exact HB.out | apply below_alloc | apply pw_below_drewN | apply below_drew1 | refine below_set ?_ (IsS100.ge HI143.out) | refine below_set ?_ zal.out | refine below_set ?_ zar.out) | exact HB.out)) hb); clear zaO zaj zap HI143 HB; have zaO := n0_; have zaj := n1_; have zap := n2_; have HI143 := n3_; have HB := n4_; clear n0_ n1_ n2_ n3_ n4_; (try clear hb); (try clear hb2); (try clear hk); (try clear hi); have za9 : w38.cell? ⟨zao, 0, none⟩ = some (.int .i64 t149) := (blk_cell zap.out 0).trans rfl; have zba : w38.cell? ⟨zao, 1, none⟩ = some (.slice Ao37 zaM.length co37) := (blk_cell zap.out 1).trans rfl; have zbb : w38.cell? ⟨zao, 2, none⟩ = some (.string t168) := (blk_cell zap.out 2).trans rfl; have zbc : w38.cell? ⟨zao, 3, none⟩ = some (.string t173) := (blk_cell zap.out 3).trans rfl; have zbd := blk_frozen zap.out 0; have zbe := blk_frozen zap.out 1; have zbf := blk_frozen zap.out 2; have zbg := blk_frozen zap.out 3; have zbh := zan.out; have zbi := zam.out; have zbj : w38.cell? ⟨zai, 0, none⟩ = some (.int .i64 0) := (blk_cell zaj.out 0).trans rfl; have zbk : w38.cell? ⟨zai, 1, none⟩ = some (.slice none 0 0) := (blk_cell zaj.out 1).trans rfl; have zbl : w38.cell? ⟨zai, 2, none⟩ = some (.string (⟨#[]⟩ : ByteArray)) := (blk_cell zaj.out 2).trans rfl; have zbm : w38.cell? ⟨zai, 3, none⟩ = some (.string (⟨#[]⟩ : ByteArray)) := (blk_cell zaj.out 3).trans rfl; have zbn := blk_frozen zaj.out 0; have zbo := blk_frozen zaj.out 1; have zbp := blk_frozen zaj.out 2; have zbq := blk_frozen zaj.out 3))
              refine bodyPost_ret (results_ct rfl _ _ zai 24 #[.int .i64 t149, .slice Ao37 zaM.length co37, .string t168, .string t173] (0, 0) _ rfl (by (with_reducible repeat (first | refine blk_drewN ?_ _ | refine blk_drew ?_ | refine blk_alloc ?_ _)); refine blk_put (cs := #[.int .i64 t149, .slice Ao37 zaM.length co37, .string t168, .string (⟨#[]⟩ : ByteArray)]) ?_ 3 _ rfl; (with_reducible repeat (first | refine blk_drewN ?_ _ | refine blk_drew ?_ | refine blk_alloc ?_ _)); refine blk_put (cs := #[.int .i64 t149, .slice Ao37 zaM.length co37, .string (⟨#[]⟩ : ByteArray), .string (⟨#[]⟩ : ByteArray)]) ?_ 2 _ rfl; (with_reducible repeat (first | refine blk_drewN ?_ _ | refine blk_drew ?_ | refine blk_alloc ?_ _)); refine blk_put (cs := #[.int .i64 t149, .slice none 0 0, .string (⟨#[]⟩ : ByteArray), .string (⟨#[]⟩ : ByteArray)]) ?_ 1 _ rfl; (with_reducible repeat (first | refine blk_drewN ?_ _ | refine blk_drew ?_ | refine blk_alloc ?_ _)); refine blk_put (cs := #[.int .i64 0, .slice none 0 0, .string (⟨#[]⟩ : ByteArray), .string (⟨#[]⟩ : ByteArray)]) ?_ 0 _ rfl; (with_reducible repeat (first | refine blk_drewN ?_ _ | refine blk_drew ?_ | refine blk_alloc ?_ _)); exact zaj.out) Tryd.underlying24 rfl (by kernel_rfl)) rfl ?_
              exact ⟨_, by first | rfl | (simp [errW_none, errW_some] <;> rfl) | (simp [*, errW_none, errW_some] <;> rfl), by (with_reducible repeat (first | apply Kd.R_alloc | apply Kd.R_drewN | apply Kd.R_drew)); exact Kd.R_mono (Kd.R_far (p := ⟨zai, 3, none⟩) (Kd.R_far (p := ⟨zai, 2, none⟩) (Kd.R_far (p := ⟨zai, 1, none⟩) (Kd.R_far (p := ⟨zai, 0, none⟩) (Kd.R_types zaO.out zaj.out (by decide)) (fun _ hk => hk.2) (.int .i64 t149)) (fun _ hk => hk.2) (.slice Ao37 zaM.length co37)) (fun _ hk => hk.2) (.string t168)) (fun _ hk => hk.2) (.string t173)) (fun _ hk => trivial), by repeat (first | (with_reducible first | exact HB.out | apply below_alloc | apply pw_below_drewN | apply below_drew1 | refine below_set ?_ (IsS100.ge HI143.out) | refine below_set ?_ zal.out | refine below_set ?_ zar.out) | exact HB.out)⟩
            · rw [if_neg c29] at H
              have c29b0 : (t183 == 0) = false := beq_eq_false_iff_ne.mpr c29
              have c29b1 : (t183 != 0) = true := bne_iff_ne.mpr c29
              simp only [Option.some.injEq, Prod.mk.injEq] at H
              obtain ⟨rfl, rfl, rfl, rfl, rfl⟩ := H
              go_wp2_with (first | ((with_reducible refine gate_callee (f := 33) rfl ?_); refine M.goes (some 28) Tryd.func33 #[.pointer (some ⟨g143, 0, none⟩), .int .i64 32] rfl ?_; (with_reducible refine (scan_Scan_Fix.calls g143 zaI zaJ zaK zaL 32 t168 t169 t170 t171 t172 w _ ?side1 ?side2 A24.out).mono ?_); (case side1 => repeat (first | (with_reducible first | exact HI143.out | apply IsS100.alloc | apply IsS100.drewN | apply IsS100.drew | apply IsS100.set_0 | apply IsS100.set_1 | apply IsS100.set_2 | apply IsS100.set_3 | refine IsS100.far ?_ zam.out _ | refine IsS100.far ?_ zau.out _) | exact HI143.out)); (case side2 => repeat (first | (with_reducible first | exact HB.out | apply below_alloc | apply pw_below_drewN | apply below_drew1 | refine below_set ?_ (IsS100.ge HI143.out) | refine below_set ?_ zal.out | refine below_set ?_ zar.out) | exact HB.out)); rintro e w42 ⟨rfl, hi, hb, hk⟩; refine ⟨_, rfl, ?_⟩; have n0_ := Aside0.mk (Kd.R_mono (Kd.R_keep (IsS100.apart (show IsS100 w _ g143 zaI zaJ zaK zaL from by repeat (first | (with_reducible first | exact HI143.out | apply IsS100.alloc | apply IsS100.drewN | apply IsS100.drew | apply IsS100.set_0 | apply IsS100.set_1 | apply IsS100.set_2 | apply IsS100.set_3 | refine IsS100.far ?_ zam.out _ | refine IsS100.far ?_ zau.out _) | exact HI143.out)) (M.ro zaO) (by decide)) hk (fun _ h => h.2)) (fun _ h => h.1)); have n1_ := Aside0.mk (KeepBut.blk hk (g' := zai) (o := .cells #[.int .i64 0, .slice none 0 0, .string (⟨#[]⟩ : ByteArray), .string (⟨#[]⟩ : ByteArray)] 24 (0, 0)) (M.bk zaj) zan.out (by simp)); have n2_ := Aside0.mk (KeepBut.blk hk (g' := zao) (o := .cells #[.int .i64 t149, zaN, .string (⟨#[]⟩ : ByteArray), .string (⟨#[]⟩ : ByteArray)] 24 (0, 0)) (M.bk zap) zav.out (by simp)); have n3_ := Aside0.mk (hb); have n4_ := Aside0.mk (hi); clear zaO zaj zap HB HI143; have zaO := n0_; have zaj := n1_; have zap := n2_; have HB := n3_; have HI143 := n4_; clear n0_ n1_ n2_ n3_ n4_; (try clear hb); (try clear hk); (try clear hi)) | ((with_reducible refine gate_callee (f := 34) rfl ?_); refine M.goes (some 30) Tryd.func34 #[.pointer (some ⟨g143, 0, none⟩), .int .i64 40] rfl ?_; (with_reducible refine (scan_Scan_Text.calls g143 t169 t170 t171 t172 40 t173 t174 t175 t176 t177 w _ ?side1 ?side2 A25.out).mono ?_); (case side1 => repeat (first | (with_reducible first | exact HI143.out | apply IsS100.alloc | apply IsS100.drewN | apply IsS100.drew | apply IsS100.set_0 | apply IsS100.set_1 | apply IsS100.set_2 | apply IsS100.set_3 | refine IsS100.far ?_ zam.out _ | refine IsS100.far ?_ zau.out _) | exact HI143.out)); (case side2 => repeat (first | (with_reducible first | exact HB.out | apply below_alloc | apply pw_below_drewN | apply below_drew1 | refine below_set ?_ (IsS100.ge HI143.out) | refine below_set ?_ zal.out | refine below_set ?_ zar.out) | exact HB.out)); rintro e w43 ⟨rfl, hi, hb, hk⟩; refine ⟨_, rfl, ?_⟩; have n0_ := Aside0.mk (Kd.R_mono (Kd.R_keep (IsS100.apart (show IsS100 w _ g143 t169 t170 t171 t172 from by repeat (first | (with_reducible first | exact HI143.out | apply IsS100.alloc | apply IsS100.drewN | apply IsS100.drew | apply IsS100.set_0 | apply IsS100.set_1 | apply IsS100.set_2 | apply IsS100.set_3 | refine IsS100.far ?_ zam.out _ | refine IsS100.far ?_ zau.out _) | exact HI143.out)) (M.ro zaO) (by decide)) hk (fun _ h => h.2)) (fun _ h => h.1)); have n1_ := Aside0.mk (KeepBut.blk hk (g' := zai) (o := .cells #[.int .i64 0, .slice none 0 0, .string (⟨#[]⟩ : ByteArray), .string (⟨#[]⟩ : ByteArray)] 24 (0, 0)) (M.bk zaj) zan.out (by simp)); have n2_ := Aside0.mk (KeepBut.blk hk (g' := zao) (o := .cells #[.int .i64 t149, zaN, .string (⟨#[]⟩ : ByteArray), .string (⟨#[]⟩ : ByteArray)] 24 (0, 0)) (M.bk zap) zav.out (by simp)); have n3_ := Aside0.mk (hb); have n4_ := Aside0.mk (hi); clear zaO zaj zap HB HI143; have zaO := n0_; have zaj := n1_; have zap := n2_; have HB := n3_; have HI143 := n4_; clear n0_ n1_ n2_ n3_ n4_; (try clear hb); (try clear hk); (try clear hi); have zbr := zat.out; have zbs := zas.out; have zbt := zav.out; have zbu := zau.out; have zbv : w43.cell? ⟨zao, 0, none⟩ = some (.int .i64 t149) := (blk_cell zap.out 0).trans rfl; have zbw : w43.cell? ⟨zao, 1, none⟩ = some (zaN) := (blk_cell zap.out 1).trans rfl; have zbx : w43.cell? ⟨zao, 2, none⟩ = some (.string (⟨#[]⟩ : ByteArray)) := (blk_cell zap.out 2).trans rfl; have zby : w43.cell? ⟨zao, 3, none⟩ = some (.string (⟨#[]⟩ : ByteArray)) := (blk_cell zap.out 3).trans rfl; have zbz := blk_frozen zap.out 0; have zbA := blk_frozen zap.out 1; have zbB := blk_frozen zap.out 2; have zbC := blk_frozen zap.out 3) | ((with_reducible refine gate_callee (f := 35) rfl ?_); refine M.goes (some 34) Tryd.func35 #[.pointer (some ⟨g143, 0, none⟩)] rfl ?_; (with_reducible refine (scan_Scan_End.calls g143 t174 t175 t176 t177 t178 t179 t180 t181 t182 w _ ?side1 ?side2 A26.out).mono ?_); (case side1 => repeat (first | (with_reducible first | exact HI143.out | apply IsS100.alloc | apply IsS100.drewN | apply IsS100.drew | apply IsS100.set_0 | apply IsS100.set_1 | apply IsS100.set_2 | apply IsS100.set_3 | refine IsS100.far ?_ zam.out _ | refine IsS100.far ?_ zau.out _) | exact HI143.out)); (case side2 => repeat (first | (with_reducible first | exact HB.out | apply below_alloc | apply pw_below_drewN | apply below_drew1 | refine below_set ?_ (IsS100.ge HI143.out) | refine below_set ?_ zal.out | refine below_set ?_ zar.out) | exact HB.out)); rintro e w47 ⟨rfl, hi, hb, hk⟩; refine ⟨_, rfl, ?_⟩; have n0_ := Aside0.mk (Kd.R_mono (Kd.R_keep (IsS100.apart (show IsS100 w _ g143 t174 t175 t176 t177 from by repeat (first | (with_reducible first | exact HI143.out | apply IsS100.alloc | apply IsS100.drewN | apply IsS100.drew | apply IsS100.set_0 | apply IsS100.set_1 | apply IsS100.set_2 | apply IsS100.set_3 | refine IsS100.far ?_ zam.out _ | refine IsS100.far ?_ zau.out _) | exact HI143.out)) (by (with_reducible repeat (first | apply Kd.R_alloc | apply Kd.R_drewN | apply Kd.R_drew)); exact (Kd.R_mono (Kd.R_far (p := ⟨zao, 3, none⟩) (Kd.R_far (p := ⟨zao, 2, none⟩) (Kd.R_types zaO.out zap.out (by decide)) (fun _ hk => hk.2) (.string t168)) (fun _ hk => hk.2) (.string t173)) (fun _ h_ => h_.1))) (by decide)) hk (fun _ h => h.2)) (fun _ h => h.1)); have n1_ := Aside0.mk (KeepBut.blk hk (g' := zai) (o := .cells #[.int .i64 0, .slice none 0 0, .string (⟨#[]⟩ : ByteArray), .string (⟨#[]⟩ : ByteArray)] 24 (0, 0)) (by (with_reducible repeat (first | refine blk_drewN ?_ _ | refine blk_drew ?_ | refine blk_alloc ?_ _)); refine blk_far ?_ zas.out _; (with_reducible repeat (first | refine blk_drewN ?_ _ | refine blk_drew ?_ | refine blk_alloc ?_ _)); refine blk_far ?_ zas.out _; (with_reducible repeat (first | refine blk_drewN ?_ _ | refine blk_drew ?_ | refine blk_alloc ?_ _)); exact zaj.out) zan.out (by simp)); have n2_ := Aside0.mk (KeepBut.blk hk (g' := zao) (o := .cells #[.int .i64 t149, zaN, .string t168, .string t173] 24 (0, 0)) (by (with_reducible repeat (first | refine blk_drewN ?_ _ | refine blk_drew ?_ | refine blk_alloc ?_ _)); refine blk_put (cs := #[.int .i64 t149, zaN, .string t168, .string (⟨#[]⟩ : ByteArray)]) ?_ 3 _ rfl; (with_reducible repeat (first | refine blk_drewN ?_ _ | refine blk_drew ?_ | refine blk_alloc ?_ _)); refine blk_put (cs := #[.int .i64 t149, zaN, .string (⟨#[]⟩ : ByteArray), .string (⟨#[]⟩ : ByteArray)]) ?_ 2 _ rfl; (with_reducible repeat (first | refine blk_drewN ?_ _ | refine blk_drew ?_ | refine blk_alloc ?_ _)); exact zap.out) zav.out (by simp)); have n3_ := Aside0.mk (hb); have n4_ := Aside0.mk (hi); clear zaO zaj zap HB HI143; have zaO := n0_; have zaj := n1_; have zap := n2_; have HB := n3_; have HI143 := n4_; clear n0_ n1_ n2_ n3_ n4_; (try clear hb); (try clear hk); (try clear hi); have zbD : w47.cell? ⟨zao, 0, none⟩ = some (.int .i64 t149) := (blk_cell zap.out 0).trans rfl; have zbE : w47.cell? ⟨zao, 1, none⟩ = some (zaN) := (blk_cell zap.out 1).trans rfl; have zbF : w47.cell? ⟨zao, 2, none⟩ = some (.string t168) := (blk_cell zap.out 2).trans rfl; have zbG : w47.cell? ⟨zao, 3, none⟩ = some (.string t173) := (blk_cell zap.out 3).trans rfl; have zbH := blk_frozen zap.out 0; have zbI := blk_frozen zap.out 1; have zbJ := blk_frozen zap.out 2; have zbK := blk_frozen zap.out 3; obtain ⟨Ao49, co49, eo49⟩ := Kd.R_slice zaO.out; subst eo49) | (go_at_call 18; (with_reducible refine (commit_Check.calls t149 _ _ zaM t168 t173 t183 _ ?side1 ?side2 A28.out).mono ?_); (case side1 => repeat (first | exact (Kd.R_reads' zaO.out).2.2 | (with_reducible refine Kd.C_alloc ?_ _) | (with_reducible refine Kd.C_drewN ?_ _) | (with_reducible refine Kd.C_drew ?_))); (case side2 => exact (Kd.R_reads' zaO.out).2.1); rintro e w50 ⟨rfl, hb⟩; have n0_ := M.roB zaO hb; have n1_ := M.bkB zaj hb; have n2_ := M.bkB zap hb; have n3_ := Aside0.mk (IsS100.below (by repeat (first | (with_reducible first | exact HI143.out | apply IsS100.alloc | apply IsS100.drewN | apply IsS100.drew | apply IsS100.set_0 | apply IsS100.set_1 | apply IsS100.set_2 | apply IsS100.set_3 | refine IsS100.far ?_ zam.out _ | refine IsS100.far ?_ zau.out _) | exact HI143.out)) hb); have n4_ := Aside0.mk (below_step (by repeat (first | (with_reducible first | exact HB.out | apply below_alloc | apply pw_below_drewN | apply below_drew1 | refine below_set ?_ (IsS100.ge HI143.out) | refine below_set ?_ zal.out | refine below_set ?_ zar.out) | exact HB.out)) hb); clear zaO zaj zap HI143 HB; have zaO := n0_; have zaj := n1_; have zap := n2_; have HI143 := n3_; have HB := n4_; clear n0_ n1_ n2_ n3_ n4_; (try clear hb); (try clear hb2); (try clear hk); (try clear hi); have zbL := zan.out; have zbM := zam.out; have zbN : w50.cell? ⟨zai, 0, none⟩ = some (.int .i64 0) := (blk_cell zaj.out 0).trans rfl; have zbO : w50.cell? ⟨zai, 1, none⟩ = some (.slice none 0 0) := (blk_cell zaj.out 1).trans rfl; have zbP : w50.cell? ⟨zai, 2, none⟩ = some (.string (⟨#[]⟩ : ByteArray)) := (blk_cell zaj.out 2).trans rfl; have zbQ : w50.cell? ⟨zai, 3, none⟩ = some (.string (⟨#[]⟩ : ByteArray)) := (blk_cell zaj.out 3).trans rfl; have zbR := blk_frozen zaj.out 0; have zbS := blk_frozen zaj.out 1; have zbT := blk_frozen zaj.out 2; have zbU := blk_frozen zaj.out 3))
              refine bodyPost_ret (results_ct rfl _ _ zai 24 #[.int .i64 0, .slice none 0 0, .string (⟨#[]⟩ : ByteArray), .string (⟨#[]⟩ : ByteArray)] (0, 0) _ rfl (by (with_reducible repeat (first | refine blk_drewN ?_ _ | refine blk_drew ?_ | refine blk_alloc ?_ _)); refine blk_put (cs := #[.int .i64 0, .slice none 0 0, .string (⟨#[]⟩ : ByteArray), .string (⟨#[]⟩ : ByteArray)]) ?_ 3 _ rfl; (with_reducible repeat (first | refine blk_drewN ?_ _ | refine blk_drew ?_ | refine blk_alloc ?_ _)); refine blk_put (cs := #[.int .i64 0, .slice none 0 0, .string (⟨#[]⟩ : ByteArray), .string (⟨#[]⟩ : ByteArray)]) ?_ 2 _ rfl; (with_reducible repeat (first | refine blk_drewN ?_ _ | refine blk_drew ?_ | refine blk_alloc ?_ _)); refine blk_put (cs := #[.int .i64 0, .slice none 0 0, .string (⟨#[]⟩ : ByteArray), .string (⟨#[]⟩ : ByteArray)]) ?_ 1 _ rfl; (with_reducible repeat (first | refine blk_drewN ?_ _ | refine blk_drew ?_ | refine blk_alloc ?_ _)); refine blk_put (cs := #[.int .i64 0, .slice none 0 0, .string (⟨#[]⟩ : ByteArray), .string (⟨#[]⟩ : ByteArray)]) ?_ 0 _ rfl; (with_reducible repeat (first | refine blk_drewN ?_ _ | refine blk_drew ?_ | refine blk_alloc ?_ _)); exact zaj.out) Tryd.underlying24 rfl (by kernel_rfl)) rfl ?_
              exact ⟨_, by first | rfl | (simp [errW_none, errW_some] <;> rfl) | (simp [*, errW_none, errW_some] <;> rfl), by first | exact Kd.R_nil _ _ _ _ _ | exact Kd.N_nil _ _ _ _ _ | exact Kd.V_nil _ _ _ _ _ | exact Kd.Q_nil _ _ _ _ _ | exact Kd.S_nil _ _ _ _ _, by repeat (first | (with_reducible first | exact HB.out | apply below_alloc | apply pw_below_drewN | apply below_drew1 | refine below_set ?_ (IsS100.ge HI143.out) | refine below_set ?_ zal.out | refine below_set ?_ zar.out) | exact HB.out)⟩
          · rw [if_neg c27] at H
            have c27b0 : (t178 == 0) = false := beq_eq_false_iff_ne.mpr c27
            have c27b1 : (t178 != 0) = true := bne_iff_ne.mpr c27
            simp only [Option.some.injEq, Prod.mk.injEq] at H
            obtain ⟨rfl, rfl, rfl, rfl, rfl⟩ := H
            go_wp2_with (first | ((with_reducible refine gate_callee (f := 33) rfl ?_); refine M.goes (some 28) Tryd.func33 #[.pointer (some ⟨g143, 0, none⟩), .int .i64 32] rfl ?_; (with_reducible refine (scan_Scan_Fix.calls g143 zaI zaJ zaK zaL 32 t168 t169 t170 t171 t172 w _ ?side1 ?side2 A24.out).mono ?_); (case side1 => repeat (first | (with_reducible first | exact HI143.out | apply IsS100.alloc | apply IsS100.drewN | apply IsS100.drew | apply IsS100.set_0 | apply IsS100.set_1 | apply IsS100.set_2 | apply IsS100.set_3 | refine IsS100.far ?_ zam.out _ | refine IsS100.far ?_ zau.out _) | exact HI143.out)); (case side2 => repeat (first | (with_reducible first | exact HB.out | apply below_alloc | apply pw_below_drewN | apply below_drew1 | refine below_set ?_ (IsS100.ge HI143.out) | refine below_set ?_ zal.out | refine below_set ?_ zar.out) | exact HB.out)); rintro e w53 ⟨rfl, hi, hb, hk⟩; refine ⟨_, rfl, ?_⟩; have n0_ := Aside0.mk (Kd.R_mono (Kd.R_keep (IsS100.apart (show IsS100 w _ g143 zaI zaJ zaK zaL from by repeat (first | (with_reducible first | exact HI143.out | apply IsS100.alloc | apply IsS100.drewN | apply IsS100.drew | apply IsS100.set_0 | apply IsS100.set_1 | apply IsS100.set_2 | apply IsS100.set_3 | refine IsS100.far ?_ zam.out _ | refine IsS100.far ?_ zau.out _) | exact HI143.out)) (M.ro zaO) (by decide)) hk (fun _ h => h.2)) (fun _ h => h.1)); have n1_ := Aside0.mk (KeepBut.blk hk (g' := zai) (o := .cells #[.int .i64 0, .slice none 0 0, .string (⟨#[]⟩ : ByteArray), .string (⟨#[]⟩ : ByteArray)] 24 (0, 0)) (M.bk zaj) zan.out (by simp)); have n2_ := Aside0.mk (KeepBut.blk hk (g' := zao) (o := .cells #[.int .i64 t149, zaN, .string (⟨#[]⟩ : ByteArray), .string (⟨#[]⟩ : ByteArray)] 24 (0, 0)) (M.bk zap) zav.out (by simp)); have n3_ := Aside0.mk (hb); have n4_ := Aside0.mk (hi); clear zaO zaj zap HB HI143; have zaO := n0_; have zaj := n1_; have zap := n2_; have HB := n3_; have HI143 := n4_; clear n0_ n1_ n2_ n3_ n4_; (try clear hb); (try clear hk); (try clear hi)) | ((with_reducible refine gate_callee (f := 34) rfl ?_); refine M.goes (some 30) Tryd.func34 #[.pointer (some ⟨g143, 0, none⟩), .int .i64 40] rfl ?_; (with_reducible refine (scan_Scan_Text.calls g143 t169 t170 t171 t172 40 t173 t174 t175 t176 t177 w _ ?side1 ?side2 A25.out).mono ?_); (case side1 => repeat (first | (with_reducible first | exact HI143.out | apply IsS100.alloc | apply IsS100.drewN | apply IsS100.drew | apply IsS100.set_0 | apply IsS100.set_1 | apply IsS100.set_2 | apply IsS100.set_3 | refine IsS100.far ?_ zam.out _ | refine IsS100.far ?_ zau.out _) | exact HI143.out)); (case side2 => repeat (first | (with_reducible first | exact HB.out | apply below_alloc | apply pw_below_drewN | apply below_drew1 | refine below_set ?_ (IsS100.ge HI143.out) | refine below_set ?_ zal.out | refine below_set ?_ zar.out) | exact HB.out)); rintro e w54 ⟨rfl, hi, hb, hk⟩; refine ⟨_, rfl, ?_⟩; have n0_ := Aside0.mk (Kd.R_mono (Kd.R_keep (IsS100.apart (show IsS100 w _ g143 t169 t170 t171 t172 from by repeat (first | (with_reducible first | exact HI143.out | apply IsS100.alloc | apply IsS100.drewN | apply IsS100.drew | apply IsS100.set_0 | apply IsS100.set_1 | apply IsS100.set_2 | apply IsS100.set_3 | refine IsS100.far ?_ zam.out _ | refine IsS100.far ?_ zau.out _) | exact HI143.out)) (M.ro zaO) (by decide)) hk (fun _ h => h.2)) (fun _ h => h.1)); have n1_ := Aside0.mk (KeepBut.blk hk (g' := zai) (o := .cells #[.int .i64 0, .slice none 0 0, .string (⟨#[]⟩ : ByteArray), .string (⟨#[]⟩ : ByteArray)] 24 (0, 0)) (M.bk zaj) zan.out (by simp)); have n2_ := Aside0.mk (KeepBut.blk hk (g' := zao) (o := .cells #[.int .i64 t149, zaN, .string (⟨#[]⟩ : ByteArray), .string (⟨#[]⟩ : ByteArray)] 24 (0, 0)) (M.bk zap) zav.out (by simp)); have n3_ := Aside0.mk (hb); have n4_ := Aside0.mk (hi); clear zaO zaj zap HB HI143; have zaO := n0_; have zaj := n1_; have zap := n2_; have HB := n3_; have HI143 := n4_; clear n0_ n1_ n2_ n3_ n4_; (try clear hb); (try clear hk); (try clear hi); have zbV := zat.out; have zbW := zas.out; have zbX := zav.out; have zbY := zau.out; have zbZ : w54.cell? ⟨zao, 0, none⟩ = some (.int .i64 t149) := (blk_cell zap.out 0).trans rfl; have zb0 : w54.cell? ⟨zao, 1, none⟩ = some (zaN) := (blk_cell zap.out 1).trans rfl; have zb1 : w54.cell? ⟨zao, 2, none⟩ = some (.string (⟨#[]⟩ : ByteArray)) := (blk_cell zap.out 2).trans rfl; have zb2 : w54.cell? ⟨zao, 3, none⟩ = some (.string (⟨#[]⟩ : ByteArray)) := (blk_cell zap.out 3).trans rfl; have zb3 := blk_frozen zap.out 0; have zb4 := blk_frozen zap.out 1; have zb5 := blk_frozen zap.out 2; have zb6 := blk_frozen zap.out 3) | ((with_reducible refine gate_callee (f := 35) rfl ?_); refine M.goes (some 34) Tryd.func35 #[.pointer (some ⟨g143, 0, none⟩)] rfl ?_; (with_reducible refine (scan_Scan_End.calls g143 t174 t175 t176 t177 t178 t179 t180 t181 t182 w _ ?side1 ?side2 A26.out).mono ?_); (case side1 => repeat (first | (with_reducible first | exact HI143.out | apply IsS100.alloc | apply IsS100.drewN | apply IsS100.drew | apply IsS100.set_0 | apply IsS100.set_1 | apply IsS100.set_2 | apply IsS100.set_3 | refine IsS100.far ?_ zam.out _ | refine IsS100.far ?_ zau.out _) | exact HI143.out)); (case side2 => repeat (first | (with_reducible first | exact HB.out | apply below_alloc | apply pw_below_drewN | apply below_drew1 | refine below_set ?_ (IsS100.ge HI143.out) | refine below_set ?_ zal.out | refine below_set ?_ zar.out) | exact HB.out)); rintro e w58 ⟨rfl, hi, hb, hk⟩; refine ⟨_, rfl, ?_⟩; have n0_ := Aside0.mk (Kd.R_mono (Kd.R_keep (IsS100.apart (show IsS100 w _ g143 t174 t175 t176 t177 from by repeat (first | (with_reducible first | exact HI143.out | apply IsS100.alloc | apply IsS100.drewN | apply IsS100.drew | apply IsS100.set_0 | apply IsS100.set_1 | apply IsS100.set_2 | apply IsS100.set_3 | refine IsS100.far ?_ zam.out _ | refine IsS100.far ?_ zau.out _) | exact HI143.out)) (by (with_reducible repeat (first | apply Kd.R_alloc | apply Kd.R_drewN | apply Kd.R_drew)); exact (Kd.R_mono (Kd.R_far (p := ⟨zao, 3, none⟩) (Kd.R_far (p := ⟨zao, 2, none⟩) (Kd.R_types zaO.out zap.out (by decide)) (fun _ hk => hk.2) (.string t168)) (fun _ hk => hk.2) (.string t173)) (fun _ h_ => h_.1))) (by decide)) hk (fun _ h => h.2)) (fun _ h => h.1)); have n1_ := Aside0.mk (KeepBut.blk hk (g' := zai) (o := .cells #[.int .i64 0, .slice none 0 0, .string (⟨#[]⟩ : ByteArray), .string (⟨#[]⟩ : ByteArray)] 24 (0, 0)) (by (with_reducible repeat (first | refine blk_drewN ?_ _ | refine blk_drew ?_ | refine blk_alloc ?_ _)); refine blk_far ?_ zas.out _; (with_reducible repeat (first | refine blk_drewN ?_ _ | refine blk_drew ?_ | refine blk_alloc ?_ _)); refine blk_far ?_ zas.out _; (with_reducible repeat (first | refine blk_drewN ?_ _ | refine blk_drew ?_ | refine blk_alloc ?_ _)); exact zaj.out) zan.out (by simp)); have n2_ := Aside0.mk (KeepBut.blk hk (g' := zao) (o := .cells #[.int .i64 t149, zaN, .string t168, .string t173] 24 (0, 0)) (by (with_reducible repeat (first | refine blk_drewN ?_ _ | refine blk_drew ?_ | refine blk_alloc ?_ _)); refine blk_put (cs := #[.int .i64 t149, zaN, .string t168, .string (⟨#[]⟩ : ByteArray)]) ?_ 3 _ rfl; (with_reducible repeat (first | refine blk_drewN ?_ _ | refine blk_drew ?_ | refine blk_alloc ?_ _)); refine blk_put (cs := #[.int .i64 t149, zaN, .string (⟨#[]⟩ : ByteArray), .string (⟨#[]⟩ : ByteArray)]) ?_ 2 _ rfl; (with_reducible repeat (first | refine blk_drewN ?_ _ | refine blk_drew ?_ | refine blk_alloc ?_ _)); exact zap.out) zav.out (by simp)); have n3_ := Aside0.mk (hb); have n4_ := Aside0.mk (hi); clear zaO zaj zap HB HI143; have zaO := n0_; have zaj := n1_; have zap := n2_; have HB := n3_; have HI143 := n4_; clear n0_ n1_ n2_ n3_ n4_; (try clear hb); (try clear hk); (try clear hi); have zb7 := zan.out; have zb8 := zam.out; have zb9 : w58.cell? ⟨zai, 0, none⟩ = some (.int .i64 0) := (blk_cell zaj.out 0).trans rfl; have zca : w58.cell? ⟨zai, 1, none⟩ = some (.slice none 0 0) := (blk_cell zaj.out 1).trans rfl; have zcb : w58.cell? ⟨zai, 2, none⟩ = some (.string (⟨#[]⟩ : ByteArray)) := (blk_cell zaj.out 2).trans rfl; have zcc : w58.cell? ⟨zai, 3, none⟩ = some (.string (⟨#[]⟩ : ByteArray)) := (blk_cell zaj.out 3).trans rfl; have zcd := blk_frozen zaj.out 0; have zce := blk_frozen zaj.out 1; have zcf := blk_frozen zaj.out 2; have zcg := blk_frozen zaj.out 3))
            refine bodyPost_ret (results_ct rfl _ _ zai 24 #[.int .i64 0, .slice none 0 0, .string (⟨#[]⟩ : ByteArray), .string (⟨#[]⟩ : ByteArray)] (0, 0) _ rfl (by (with_reducible repeat (first | refine blk_drewN ?_ _ | refine blk_drew ?_ | refine blk_alloc ?_ _)); refine blk_put (cs := #[.int .i64 0, .slice none 0 0, .string (⟨#[]⟩ : ByteArray), .string (⟨#[]⟩ : ByteArray)]) ?_ 3 _ rfl; (with_reducible repeat (first | refine blk_drewN ?_ _ | refine blk_drew ?_ | refine blk_alloc ?_ _)); refine blk_put (cs := #[.int .i64 0, .slice none 0 0, .string (⟨#[]⟩ : ByteArray), .string (⟨#[]⟩ : ByteArray)]) ?_ 2 _ rfl; (with_reducible repeat (first | refine blk_drewN ?_ _ | refine blk_drew ?_ | refine blk_alloc ?_ _)); refine blk_put (cs := #[.int .i64 0, .slice none 0 0, .string (⟨#[]⟩ : ByteArray), .string (⟨#[]⟩ : ByteArray)]) ?_ 1 _ rfl; (with_reducible repeat (first | refine blk_drewN ?_ _ | refine blk_drew ?_ | refine blk_alloc ?_ _)); refine blk_put (cs := #[.int .i64 0, .slice none 0 0, .string (⟨#[]⟩ : ByteArray), .string (⟨#[]⟩ : ByteArray)]) ?_ 0 _ rfl; (with_reducible repeat (first | refine blk_drewN ?_ _ | refine blk_drew ?_ | refine blk_alloc ?_ _)); exact zaj.out) Tryd.underlying24 rfl (by kernel_rfl)) rfl ?_
            exact ⟨_, by first | rfl | (simp [errW_none, errW_some] <;> rfl) | (simp [*, errW_none, errW_some] <;> rfl), by first | exact Kd.R_nil _ _ _ _ _ | exact Kd.N_nil _ _ _ _ _ | exact Kd.V_nil _ _ _ _ _ | exact Kd.Q_nil _ _ _ _ _ | exact Kd.S_nil _ _ _ _ _, by repeat (first | (with_reducible first | exact HB.out | apply below_alloc | apply pw_below_drewN | apply below_drew1 | refine below_set ?_ (IsS100.ge HI143.out) | refine below_set ?_ zal.out | refine below_set ?_ zar.out) | exact HB.out)⟩
  · rw [if_neg c4] at H
    have c4b0 : (t144 == 67) = false := beq_eq_false_iff_ne.mpr c4
    have c4b1 : (t144 != 67) = true := bne_iff_ne.mpr c4
    simp only [Option.some.injEq, Prod.mk.injEq] at H
    obtain ⟨rfl, rfl, rfl, rfl, rfl⟩ := H
    go_enter Tryd.func9, Tryd.ntmps9
    go_wp2_with (first | ((with_reducible refine gate_dst (N := 2) rfl ?_); refine box_event ?hg (N := 2) ?hd (cs := #[.int .i64 0, .slice none 0 0, .string (⟨#[]⟩ : ByteArray), .string (⟨#[]⟩ : ByteArray)]) (t := 24) ?hr ?_; (case hd => rfl); (case hg => rfl); (case hr => first | (go_simp; done) | (go_simp; rfl)); intro zai hg w61 hbox hb; have n0_ := M.upS HB hb; have n1_ := Aside0.mk (hbox); have n2_ := M.upG HB hg; have n3_ := M.upG HB hg; clear HB; have HB := n0_; have zaj := n1_; have zak := n2_; have zal := n3_; clear n0_ n1_ n2_ n3_; clear hb hbox hg) | ((with_reducible refine gate_callee (f := 30) rfl ?_); refine M.goes (some 7) Tryd.func30 #[.string a0] rfl ?_; (with_reducible refine (scan_New.calls a0 t139 t140 t141 t142 w _ ?side1 A2.out).mono ?_); (case side1 => repeat (first | (with_reducible first | exact HB.out | apply below_alloc | apply pw_below_drewN | apply below_drew1 | refine below_set ?_ zal.out) | exact HB.out)); rintro e w62 ⟨g143, rfl, hi, hb, hb2⟩; refine ⟨_, rfl, ?_⟩; have n0_ := M.bkB zaj hb2; have n1_ := Aside0.mk (hb); have n2_ := Aside0.mk (hi); have n3_ := Aside0.mk (IsS100.ne_blk hi (blk_below (g := zai) (o := .cells #[.int .i64 0, .slice none 0 0, .string (⟨#[]⟩ : ByteArray), .string (⟨#[]⟩ : ByteArray)] 24 (0, 0)) (M.bk zaj) hb2) (by decide)); have n4_ := Aside0.mk (Ne.symm (IsS100.ne_blk hi (blk_below (g := zai) (o := .cells #[.int .i64 0, .slice none 0 0, .string (⟨#[]⟩ : ByteArray), .string (⟨#[]⟩ : ByteArray)] 24 (0, 0)) (M.bk zaj) hb2) (by decide))); clear zaj HB; have zaj := n0_; have HB := n1_; have HI143 := n2_; have zam := n3_; have zan := n4_; clear n0_ n1_ n2_ n3_ n4_; (try clear hb); (try clear hb2); (try clear hi)) | ((with_reducible refine gate_callee (f := 31) rfl ?_); refine M.goes (some 9) Tryd.func31 #[.pointer (some ⟨g143, 0, none⟩)] rfl ?_; (with_reducible refine (scan_Scan_Byte.calls g143 t139 t140 t141 t142 t144 t145 t146 t147 t148 w _ ?side1 ?side2 A3.out).mono ?_); (case side1 => repeat (first | (with_reducible first | exact HI143.out | apply IsS100.alloc | apply IsS100.drewN | apply IsS100.drew | apply IsS100.set_0 | apply IsS100.set_1 | apply IsS100.set_2 | apply IsS100.set_3 | refine IsS100.far ?_ zam.out _) | exact HI143.out)); (case side2 => repeat (first | (with_reducible first | exact HB.out | apply below_alloc | apply pw_below_drewN | apply below_drew1 | refine below_set ?_ (IsS100.ge HI143.out) | refine below_set ?_ zal.out) | exact HB.out)); rintro e w63 ⟨rfl, hi, hb, hk⟩; refine ⟨_, rfl, ?_⟩; have n0_ := Aside0.mk (KeepBut.blk hk (g' := zai) (o := .cells #[.int .i64 0, .slice none 0 0, .string (⟨#[]⟩ : ByteArray), .string (⟨#[]⟩ : ByteArray)] 24 (0, 0)) (M.bk zaj) zan.out (by simp)); have n1_ := Aside0.mk (hb); have n2_ := Aside0.mk (hi); clear zaj HB HI143; have zaj := n0_; have HB := n1_; have HI143 := n2_; clear n0_ n1_ n2_; (try clear hb); (try clear hk); (try clear hi); have zch := zan.out; have zci := zam.out; have zcj : w63.cell? ⟨zai, 0, none⟩ = some (.int .i64 0) := (blk_cell zaj.out 0).trans rfl; have zck : w63.cell? ⟨zai, 1, none⟩ = some (.slice none 0 0) := (blk_cell zaj.out 1).trans rfl; have zcl : w63.cell? ⟨zai, 2, none⟩ = some (.string (⟨#[]⟩ : ByteArray)) := (blk_cell zaj.out 2).trans rfl; have zcm : w63.cell? ⟨zai, 3, none⟩ = some (.string (⟨#[]⟩ : ByteArray)) := (blk_cell zaj.out 3).trans rfl; have zcn := blk_frozen zaj.out 0; have zco := blk_frozen zaj.out 1; have zcp := blk_frozen zaj.out 2; have zcq := blk_frozen zaj.out 3))
    refine bodyPost_ret (results_ct rfl _ _ zai 24 #[.int .i64 0, .slice none 0 0, .string (⟨#[]⟩ : ByteArray), .string (⟨#[]⟩ : ByteArray)] (0, 0) _ rfl (by (with_reducible repeat (first | refine blk_drewN ?_ _ | refine blk_drew ?_ | refine blk_alloc ?_ _)); refine blk_put (cs := #[.int .i64 0, .slice none 0 0, .string (⟨#[]⟩ : ByteArray), .string (⟨#[]⟩ : ByteArray)]) ?_ 3 _ rfl; (with_reducible repeat (first | refine blk_drewN ?_ _ | refine blk_drew ?_ | refine blk_alloc ?_ _)); refine blk_put (cs := #[.int .i64 0, .slice none 0 0, .string (⟨#[]⟩ : ByteArray), .string (⟨#[]⟩ : ByteArray)]) ?_ 2 _ rfl; (with_reducible repeat (first | refine blk_drewN ?_ _ | refine blk_drew ?_ | refine blk_alloc ?_ _)); refine blk_put (cs := #[.int .i64 0, .slice none 0 0, .string (⟨#[]⟩ : ByteArray), .string (⟨#[]⟩ : ByteArray)]) ?_ 1 _ rfl; (with_reducible repeat (first | refine blk_drewN ?_ _ | refine blk_drew ?_ | refine blk_alloc ?_ _)); refine blk_put (cs := #[.int .i64 0, .slice none 0 0, .string (⟨#[]⟩ : ByteArray), .string (⟨#[]⟩ : ByteArray)]) ?_ 0 _ rfl; (with_reducible repeat (first | refine blk_drewN ?_ _ | refine blk_drew ?_ | refine blk_alloc ?_ _)); exact zaj.out) Tryd.underlying24 rfl (by kernel_rfl)) rfl ?_
    exact ⟨_, by first | rfl | (simp [errW_none, errW_some] <;> rfl) | (simp [*, errW_none, errW_some] <;> rfl), by first | exact Kd.R_nil _ _ _ _ _ | exact Kd.N_nil _ _ _ _ _ | exact Kd.V_nil _ _ _ _ _ | exact Kd.Q_nil _ _ _ _ _ | exact Kd.S_nil _ _ _ _ _, by repeat (first | (with_reducible first | exact HB.out | apply below_alloc | apply pw_below_drewN | apply below_drew1 | refine below_set ?_ (IsS100.ge HI143.out) | refine below_set ?_ zal.out) | exact HB.out)⟩

-- this session's own plain form
def commit_Take.no : Int × List ByteArray × ByteArray × ByteArray × Int := (0, [], ⟨#[]⟩, ⟨#[]⟩, 3)
def commit_Take.f (a0 : ByteArray) : Option (Int × List ByteArray × ByteArray × ByteArray × Int) := if a0.size ≤ 9223372036854775806 then some (if M.cgood a0 then ((M.cN a0).1, (M.cP a0).1, (M.cG a0).1, (M.cT a0).1, 0) else commit_Take.no) else none
def commit_Take.fin (s : ByteArray) (n : Int) (ps : List ByteArray) (p er : Int) : Int × List ByteArray × ByteArray × ByteArray × Int :=
  if M.xend s (M.xtext s (M.xfix s p er 32).2.1 (M.xfix s p er 32).2.2 40).2.1 (M.xtext s (M.xfix s p er 32).2.1 (M.xfix s p er 32).2.2 40).2.2 = 0 ∧ M.isC n ps (M.xfix s p er 32).1 (M.xtext s (M.xfix s p er 32).2.1 (M.xfix s p er 32).2.2 40).1 then (n, ps, (M.xfix s p er 32).1, (M.xtext s (M.xfix s p er 32).2.1 (M.xfix s p er 32).2.2 40).1, 0) else commit_Take.no
theorem commit_Take.loop (s : ByteArray) (n m : Int) (hm : m ≤ 2) (d : Nat) : ∀ (i : Nat) (p er : Int) (ps : List ByteArray), (i : Int) + d = m → M.sok s p → ps.length ≤ 100 + i →
    commit_Take_p.l0 (d + 1) m (i : Int) s p er true n ps ⟨#[]⟩ ⟨#[]⟩ = some (commit_Take.fin s n (ps ++ (M.cfixes s d p er).1) (M.cfixes s d p er).2.1 (M.cfixes s d p er).2.2) := by
  induction d with
  | zero =>
    intro i p er ps hi hs hl
    have hk := M.xfix_ok s er 32 hs
    rw [commit_Take_p.l0, if_neg (by omega)]
    unfold scan_Scan_Fix.f scan_Scan_take.f
    rw [if_pos rfl, if_pos ⟨hs, by decide, by decide⟩, Option.bind_some]
    simp only
    unfold scan_Scan_Text.f
    rw [if_pos rfl, if_pos ⟨hk, by decide⟩, Option.bind_some]
    simp only
    rw [scan_Scan_End.eq, Option.bind_some]
    simp only [M.cfixes, List.append_nil]
    unfold commit_Take.fin commit_Check.f
    by_cases h0 : M.xend s (M.xtext s (M.xfix s p er 32).2.1 (M.xfix s p er 32).2.2 40).2.1 (M.xtext s (M.xfix s p er 32).2.1 (M.xfix s p er 32).2.2 40).2.2 = 0
    · rw [if_pos h0, Option.bind_some]
      by_cases h1 : M.isC n ps (M.xfix s p er 32).1 (M.xtext s (M.xfix s p er 32).2.1 (M.xfix s p er 32).2.2 40).1
      · rw [if_pos h1, if_pos rfl, if_pos ⟨h0, h1⟩]
      · rw [if_neg h1, if_neg (by decide), if_neg (fun z => h1 z.2)]; rfl
    · rw [if_neg h0, if_neg (fun z => h0 z.1)]; rfl
  | succ d ih =>
    intro i p er ps hi hs hl
    have hk := M.xfix_ok s er 32 hs
    have hi1 : wrap64 ((i : Int) + 1) = ((i + 1 : Nat) : Int) := by rw [M.wrap64_id (by omega) (by omega)]; omega
    rw [commit_Take_p.l0, if_pos (by omega), hi1]
    unfold scan_Scan_Fix.f scan_Scan_take.f
    rw [if_pos rfl, if_pos ⟨hs, by decide, by decide⟩, Option.bind_some]
    simp only
    rw [if_pos (by omega), ih (i + 1) _ _ _ (by omega) hk (by simp; omega)]
    simp only [M.cfixes, List.append_assoc, List.singleton_append]
theorem commit_Take.ev (s : ByteArray) (r : Int × List ByteArray × ByteArray × ByteArray × Int) (h : commit_Take.f s = some r) : ∃ k, commit_Take_p.f k s = some r := by
  unfold commit_Take.f at h
  split at h
  case isFalse => cases h
  case isTrue hz =>
    have h0 : M.sok s 0 := M.sok0 (by omega)
    have hb := M.xbyte_ok s 0 h0
    have hN := M.cN_ok (s := s) (by omega)
    have hM := M.cM_range (s := s) (by omega)
    have hMo := M.cM_ok (s := s) (by omega)
    refine ⟨(M.cM s).1.toNat + 1, ?_⟩
    rw [← h]
    unfold commit_Take_p.f scan_New.f scan_Scan_Byte.f
    simp only [Option.bind_some]
    simp only [if_true, if_pos h0, Option.bind_some]
    by_cases c1 : (M.xbyte s 0 0).1 = 67
    · rw [if_pos c1, scan_Scan_Num.eq _ _ _ _ hb (by decide), Option.bind_some]
      simp only
      rw [show M.xnum s (M.xbyte s 0 0).2.1 (M.xbyte s 0 0).2.2 4294967295 = M.cN s from rfl, scan_Scan_Num.eq _ _ _ _ hN (by decide), Option.bind_some]
      simp only
      rw [show M.xnum s (M.cN s).2.1 (M.cN s).2.2 2 = M.cM s from rfl]
      have := commit_Take.loop s (M.cN s).1 (M.cM s).1 hM.2 (M.cM s).1.toNat 0 (M.cM s).2.1 (M.cM s).2.2 [] (by omega) hMo (by simp)
      rw [List.nil_append, show ((0 : Nat) : Int) = 0 from rfl] at this
      rw [this]
      congr 1
      show commit_Take.fin s (M.cN s).1 (M.cP s).1 (M.cP s).2.1 (M.cP s).2.2 = _
      unfold commit_Take.fin
      by_cases c2 : M.cgood s
      · rw [if_pos c2]
        exact if_pos c2.2
      · rw [if_neg c2]
        exact if_neg (fun z => c2 ⟨c1, z⟩)
    · rw [if_neg c1, if_neg (fun z => c1 z.1)]; rfl
theorem commit_Take.calls (a0 : ByteArray) (r1 : Int) (r2 : List ByteArray) (r3 : ByteArray) (r4 : ByteArray) (r5 : Int) (w : World) (h : commit_Take.f a0 = some (r1, r2, r3, r4, r5)) :
    Calls Tryd.prog 9 #[.string a0] w fun e w' => ∃ v1_ : Value, e = .returned (.tuple #[.agg #[.int .i64 r1, v1_, .string r3, .string r4], .int .i64 r5]) ∧ Kd.R Kd.string 9 w' w.heap.size (fun _ => True) v1_ r2 ∧ Below w.heap.size w w' := by
  obtain ⟨k, hk⟩ := commit_Take.ev _ _ h
  exact commit_Take_p.calls (k := k) (w := w) (h := hk)

/-! ### commit_Is: function 12 -/
def commit_Is.f (a0 : ByteArray) : Option (Bool) := if a0.toList = ([] : List UInt8) then (some false) else (if 0 < (a0.size : Int) then (some ((bt a0 0) == 67)) else (none))
set_option maxHeartbeats 8000000 in
set_option maxRecDepth 100000 in
theorem commit_Is.calls (a0 : ByteArray) (r : Bool) (w : World) (h : commit_Is.f a0 = some r) :
    Calls Tryd.prog 12 #[.string a0] w fun e w' => e = .returned (.bool r) ∧ Drawn0 w w' := by
  have H : (if a0.toList = ([] : List UInt8) then (some false) else (if 0 < (a0.size : Int) then (some ((bt a0 0) == 67)) else (none))) = some r := h
  clear h
  by_cases c2 : a0.toList = ([] : List UInt8)
  · rw [if_pos c2] at H
    have c2b0 : (a0.toList == ([] : List UInt8)) = true := beq_iff_eq.mpr c2
    have c2b1 : (a0.toList != ([] : List UInt8)) = false := bne_eq_false_iff_eq.mpr c2
    clear c2
    obtain rfl := Option.some.inj H
    go_enter Tryd.func12, Tryd.ntmps12
    go_wp2
    go_ret
    exact ⟨by first | rfl | (simp; done) | (simp [*]; done), by repeat (first | exact Drawn0.refl _ | apply Drawn0.step)⟩
  · rw [if_neg c2] at H
    have c2b0 : (a0.toList == ([] : List UInt8)) = false := beq_eq_false_iff_ne.mpr c2
    have c2b1 : (a0.toList != ([] : List UInt8)) = true := bne_iff_ne.mpr c2
    by_cases c3 : 0 < (a0.size : Int)
    · rw [if_pos c3] at H
      have c3b0 : decide (0 < (a0.size : Int)) = true := decide_eq_true c3
      have c3b1 : decide (0 < a0.size) = true := decide_eq_true (by omega)
      clear c3
      obtain rfl := Option.some.inj H
      have p4 : 0 ≤ (0 : Int) := (by omega)
      have q4 : 0 < a0.size := (by have : (0 : Int) < (a0.size : Int) := of_decide_eq_true (by first | (with_reducible assumption) | assumption); omega)
      have hx4 : ∀ h : 0 < a0.size, ((a0[0]'h).toNat : Int) = bt a0 0 := bt_at a0 0
      clear p4
      have qi4 : (0 < (a0.size : Int)) = True := eq_true (of_decide_eq_true (by first | (with_reducible assumption) | assumption))
      replace q4 := eq_true q4
      go_enter Tryd.func12, Tryd.ntmps12
      go_wp2
      go_ret
      exact ⟨by first | rfl | (simp; done) | (simp [*]; done), by repeat (first | exact Drawn0.refl _ | apply Drawn0.step)⟩
    · rw [if_neg c3] at H
      exact absurd H (by simp)

/-! ### shelf_Shelf_there: function 44 -/
theorem shelf_Shelf_there.law : Maps.Keyed Tryd.prog 9 := Maps.string_keyed Tryd.underlying9
theorem shelf_Shelf_there.zero_ (w : World) : (zeroValue 3).run Tryd.prog w = .ok (.int .i64 0) w := by kernel_rfl
set_option maxRecDepth 100000 in
theorem shelf_Shelf_there.calls (base g B : Nat) (D : DataW Unit) (vt vn : Value) (ts : List ByteArray) (a b : ByteArray) (w : World) (hS : M.shelf Tryd.prog base w g B D vt vn ts a b) :
    Calls Tryd.prog 44 #[.pointer (some ⟨g, 0, none⟩)] w fun e w' => e = .returned (.bool true) ∧ w = w' := by
  have c0 : w.cell? ⟨g, 0, none⟩ = some (.map (some B)) := M.blk_cell hS.blk 0 _ rfl
  have hne : ∀ W : World, (binOp .neq 78 (.map (some B)) (.map none)).run Tryd.prog W = .ok (.bool true) W := fun W => run_neq_map_nil (P := Tryd.prog) (w := W) 78 9 3 (some B) Tryd.underlying78
  clear hS
  go_enter Tryd.func44, Tryd.ntmps44
  go_wp2
  go_ret
  exact ⟨rfl, rfl⟩

/-! ### shelf_Shelf_Get: function 45 -/
set_option maxHeartbeats 8000000 in
set_option maxRecDepth 100000 in
theorem shelf_Shelf_Get.none_ (base g B : Nat) (D : DataW Unit) (vt vn : Value) (ts : List ByteArray) (a b name : ByteArray) (w : World) (hS : M.shelf Tryd.prog base w g B D vt vn ts a b) (hz : name.size ≤ 1000000000000) (hn : M.idx (ts.map M.shaSum) name.data.toList = none) :
    Calls Tryd.prog 45 #[.pointer (some ⟨g, 0, none⟩), .string name] w fun e w' => e = .returned (.tuple #[.string ByteArray.empty, .bool false]) ∧ w = w' := by
  have c0 : w.cell? ⟨g, 0, none⟩ = some (.map (some B)) := M.blk_cell hS.blk 0 _ rfl
  have hKEY := Go.WideMaps.keyOf_string_mk Tryd.underlying9 (show name.size ≤ maxLen from by unfold maxLen; omega)
  have hown := hS.map
  have h1 := (hS.says name.data.toList).1
  have h2 := (hS.says name.data.toList).2
  rw [hn] at h1 h2
  have HS := Aside0.mk hS
  clear hS
  go_enter Tryd.func45, Tryd.ntmps45
  go_wp2_with (first | (go_at_call 44; (with_reducible refine (shelf_Shelf_there.calls base g B D vt vn ts a b _ HS.out).mono ?_); rintro e w1 ⟨rfl, rfl⟩) | (at_lookup; refine wpList_lookup_own_ok_int _ rfl _ _ 78 rfl 9 3 .i64 shelf_Shelf_there.law Tryd.underlying78 Tryd.underlying3 (shelf_Shelf_there.zero_ _) B ts.length D rfl hown _ _ rfl hKEY ?_; intro c hat hwc))
  exact bodyPost_ret (v := .tuple #[.string ByteArray.empty, .bool false]) (by simp [results, Tryd.results45, go_sem]; rfl) rfl ⟨rfl, rfl⟩
set_option maxHeartbeats 8000000 in
set_option maxRecDepth 100000 in
theorem shelf_Shelf_Get.some_ (base g B : Nat) (D : DataW Unit) (vt vn : Value) (ts : List ByteArray) (a b name : ByteArray) (i : Nat) (w : World) (hS : M.shelf Tryd.prog base w g B D vt vn ts a b) (hz : name.size ≤ 1000000000000) (hn : M.idx (ts.map M.shaSum) name.data.toList = some i) :
    Calls Tryd.prog 45 #[.pointer (some ⟨g, 0, none⟩), .string name] w fun e w' => e = .returned (.tuple #[.string (ts.getD i ByteArray.empty), .bool true]) ∧ w = w' := by
  have hi : i < ts.length := by have := (M.idx_lt hn).1; simpa using this
  obtain ⟨gt, cap, rfl, _, _⟩ := hS.rt.form (by omega)
  have c0 : w.cell? ⟨g, 0, none⟩ = some (.map (some B)) := M.blk_cell hS.blk 0 _ rfl
  have c1 : w.cell? ⟨g, 1, none⟩ = some (.slice (some ⟨gt, 0, none⟩) ts.length cap) := M.blk_cell hS.blk 1 _ rfl
  have ci := hS.rt.cells (g := gt) rfl i (.string (ts.getD i ByteArray.empty)) (by simp [List.getD, hi])
  rw [add_plain] at ci
  have hKEY := Go.WideMaps.keyOf_string_mk Tryd.underlying9 (show name.size ≤ maxLen from by unfold maxLen; omega)
  have hown := hS.map
  have h1 := (hS.says name.data.toList).1
  have h2 := (hS.says name.data.toList).2
  rw [hn] at h1 h2
  have HS := Aside0.mk hS
  have g0 : (0 : Int) ≤ (i : Int) := by omega
  have g1 : (i : Int) < (ts.length : Int) := by omega
  clear hS
  generalize ts.getD i ByteArray.empty = x at ci ⊢
  go_enter Tryd.func45, Tryd.ntmps45
  go_wp2_with (first | (go_at_call 44; (with_reducible refine (shelf_Shelf_there.calls base g B D _ vn ts a b _ HS.out).mono ?_); rintro e w1 ⟨rfl, rfl⟩) | (at_lookup; refine wpList_lookup_own_ok_int _ rfl _ _ 78 rfl 9 3 .i64 shelf_Shelf_there.law Tryd.underlying78 Tryd.underlying3 (shelf_Shelf_there.zero_ _) B ts.length D rfl hown _ _ rfl hKEY ?_; intro c hat hwc; obtain rfl : c = (i : Int) := by (rw [h2] at hat; simpa using hat.symm)))
  exact bodyPost_ret (v := .tuple #[.string x, .bool true]) (by simp [results, Tryd.results45, go_sem]) rfl ⟨rfl, rfl⟩
theorem shelf_Shelf_Get.any (base g : Nat) (F : Nat → Prop) (s : M.SS) (name : ByteArray) (w : World) (hS : M.Sh Tryd.prog base w g F s) (hz : name.size ≤ 1000000000000) :
    Calls Tryd.prog 45 #[.pointer (some ⟨g, 0, none⟩), .string name] w fun e w' => e = .returned (.tuple #[.string (s.get name).1, .bool (s.get name).2]) ∧ w = w' := by
  obtain ⟨B, D, vt, vn, hs, hF, hl⟩ := hS
  unfold M.SS.get
  cases hi : M.idx (s.ts.map M.shaSum) name.data.toList with
  | none => exact shelf_Shelf_Get.none_ base g B D vt vn s.ts s.a s.b name w hs hz hi
  | some i => exact shelf_Shelf_Get.some_ base g B D vt vn s.ts s.a s.b name i w hs hz hi

/-! ### commit_Load: function 20 -/
theorem commit_Load.size_ : (Tryd.prog.info? 24).map (·.size) = some 4 := by kernel_rfl
def commit_Load.zero_ : List Value := [.int .i64 0, .slice none 0 0, .string ⟨#[]⟩, .string ⟨#[]⟩]
theorem commit_Load.isy (x : ByteArray) (b : Bool) (h : commit_Is.f x = some b) (w : World) : Calls Tryd.prog 12 #[.string x] w fun e w' => e = .returned (.bool b) ∧ Drawn0 w w' := commit_Is.calls x b w h
theorem commit_Load.get_ (base g : Nat) (F : Nat → Prop) (s : M.SS) (name x : ByteArray) (ok : Bool) (w : World) (hS : M.Sh Tryd.prog base w g F s) (hz : name.size ≤ 1000000000000) (h : s.get name = (x, ok)) :
    Calls Tryd.prog 45 #[.pointer (some ⟨g, 0, none⟩), .string name] w fun e w' => e = .returned (.tuple #[.string x, .bool ok]) ∧ w = w' := by
  have := shelf_Shelf_Get.any base g F s name w hS hz
  rw [h] at this
  exact this
set_option maxHeartbeats 8000000 in
set_option maxRecDepth 100000 in
/-- No text of that name, or one that is no commit's. -/
theorem commit_Load.bad (base g : Nat) (F : Nat → Prop) (s : M.SS) (name x : ByteArray) (ok : Bool) (w : World) (hS : M.Sh Tryd.prog base w g F s) (hz : name.size ≤ 1000000000000) (hg : s.get name = (x, ok)) (hb : ok = false ∨ commit_Is.f x = some false) :
    Calls Tryd.prog 20 #[.pointer (some ⟨g, 0, none⟩), .string name] w fun e w' => e = .returned (.tuple #[.agg #[.int .i64 0, .slice none 0 0, .string ⟨#[]⟩, .string ⟨#[]⟩], .int .i64 13]) ∧ Below w.heap.size w w' := by
  have HS := Aside0.mk (hS.below (below_alloc (Below.refl w.heap.size w) (.cells #[.int .i64 0, .slice none 0 0, .string ⟨#[]⟩, .string ⟨#[]⟩] 24)))
  have HG := Aside0.mk hg
  have HB := Aside0.mk (below_alloc (Below.refl w.heap.size w) (.cells #[.int .i64 0, .slice none 0 0, .string ⟨#[]⟩, .string ⟨#[]⟩] 24))
  clear hS hg
  cases ok with
  | false =>
    clear hb
    go_enter Tryd.func20, Tryd.ntmps20
    go_wp2_with (first | (go_at_call 45; (with_reducible refine (commit_Load.get_ base g F s name x false _ HS.out hz HG.out).mono ?_); rintro e w1 ⟨rfl, rfl⟩))
    exact bodyPost_ret (v := .tuple #[.agg #[.int .i64 0, .slice none 0 0, .string ⟨#[]⟩, .string ⟨#[]⟩], .int .i64 13]) (by simp [results, Tryd.results20, go_sem]) rfl ⟨rfl, HB.out⟩
  | true =>
    have HI := Aside0.mk (hb.resolve_left (by simp))
    clear hb
    go_enter Tryd.func20, Tryd.ntmps20
    go_wp2_with (first | (go_at_call 45; (with_reducible refine (commit_Load.get_ base g F s name x true _ HS.out hz HG.out).mono ?_); rintro e w1 ⟨rfl, rfl⟩) | (go_at_call 12; (with_reducible refine (commit_Load.isy x false HI.out _).mono ?_); rintro e w2 ⟨rfl, ⟨nd, rfl⟩⟩) | ((with_reducible refine gate_store (t := 24) (p := 4) (v := .tmp 23) rfl ?_); refine M.wp_rec_store rfl 24 _ _ rfl w.heap.size 24 commit_Load.zero_ commit_Load.zero_ rfl rfl (M.rec_drewN (M.rec_new w _ commit_Load.zero_) nd) rfl commit_Load.size_ rfl ?_; intro w4 hA4 hF4 hB4 hz4; have HB4 := Aside0.mk (hB4 _ _ (Nat.le_refl _) (pw_below_drewN HB.out nd)); have HA4 := Aside0.mk hA4; clear hA4 hF4 hB4 hz4))
    exact bodyPost_ret (v := .tuple #[.agg commit_Load.zero_.toArray, .int .i64 13]) (M.results_rec2 Tryd.results20 _ (by rfl) HA4.out Tryd.underlying24 rfl commit_Load.size_) rfl ⟨rfl, HB4.out⟩
set_option maxHeartbeats 8000000 in
set_option maxRecDepth 100000 in
/-- A commit's letter, but no commit. -/
theorem commit_Load.rot (base g : Nat) (F : Nat → Prop) (s : M.SS) (name x : ByteArray) (r1 : Int) (r2 : List ByteArray) (r3 r4 : ByteArray) (r5 : Int) (w : World) (hS : M.Sh Tryd.prog base w g F s) (hz : name.size ≤ 1000000000000) (hg : s.get name = (x, true)) (hb : commit_Is.f x = some true) (ht : commit_Take.f x = some (r1, r2, r3, r4, r5)) (h5 : r5 ≠ 0) :
    Calls Tryd.prog 20 #[.pointer (some ⟨g, 0, none⟩), .string name] w fun e w' => e = .returned (.tuple #[.agg #[.int .i64 0, .slice none 0 0, .string ⟨#[]⟩, .string ⟨#[]⟩], .int .i64 13]) ∧ Below w.heap.size w w' := by
  have HS := Aside0.mk (hS.below (below_alloc (Below.refl w.heap.size w) (.cells #[.int .i64 0, .slice none 0 0, .string ⟨#[]⟩, .string ⟨#[]⟩] 24)))
  have HG := Aside0.mk hg
  have HI := Aside0.mk hb
  have HT := Aside0.mk ht
  have hq : (r5 != 0) = true := bne_iff_ne.2 h5
  have HB := Aside0.mk (below_alloc (Below.refl w.heap.size w) (.cells #[.int .i64 0, .slice none 0 0, .string ⟨#[]⟩, .string ⟨#[]⟩] 24))
  clear hS hg hb ht h5
  go_enter Tryd.func20, Tryd.ntmps20
  go_wp2_with (first | (go_at_call 45; (with_reducible refine (commit_Load.get_ base g F s name x true _ HS.out hz HG.out).mono ?_); rintro e w1 ⟨rfl, rfl⟩) | (go_at_call 12; (with_reducible refine (commit_Load.isy x true HI.out _).mono ?_); rintro e w2 ⟨rfl, ⟨nd, rfl⟩⟩) | (go_at_call 9; (with_reducible refine (commit_Take.calls x r1 r2 r3 r4 r5 _ HT.out).mono ?_); rintro e w3 ⟨v1, rfl, hR, hb3⟩; obtain ⟨A1, c1, rfl⟩ := Kd.R_slice hR; have HB3 := Aside0.mk (below_step (pw_below_drewN HB.out nd) hb3); have HC := Aside0.mk (M.rec_below (M.rec_drewN (M.rec_new w 24 commit_Load.zero_) nd) hb3); clear hR hb3) | ((with_reducible refine gate_store (t := 24) (p := 4) (v := .tmp 31) rfl ?_); refine M.wp_rec_store rfl 24 _ _ rfl w.heap.size 24 commit_Load.zero_ commit_Load.zero_ rfl rfl (M.rec_alloc HC.out _) rfl commit_Load.size_ rfl ?_; intro w4 hA4 hF4 hB4 hz4; have HB4 := Aside0.mk (hB4 _ _ (Nat.le_refl _) (below_alloc HB3.out _)); have HA4 := Aside0.mk hA4; clear hA4 hF4 hB4 hz4))
  exact bodyPost_ret (v := .tuple #[.agg commit_Load.zero_.toArray, .int .i64 13]) (M.results_rec2 Tryd.results20 _ (by rfl) HA4.out Tryd.underlying24 rfl commit_Load.size_) rfl ⟨rfl, HB4.out⟩
set_option maxHeartbeats 8000000 in
set_option maxRecDepth 100000 in
/-- A commit. -/
theorem commit_Load.good (base g : Nat) (F : Nat → Prop) (s : M.SS) (name x : ByteArray) (r1 : Int) (r2 : List ByteArray) (r3 r4 : ByteArray) (w : World) (hS : M.Sh Tryd.prog base w g F s) (hz : name.size ≤ 1000000000000) (hg : s.get name = (x, true)) (hb : commit_Is.f x = some true) (ht : commit_Take.f x = some (r1, r2, r3, r4, 0)) :
    Calls Tryd.prog 20 #[.pointer (some ⟨g, 0, none⟩), .string name] w fun e w' => ∃ A c, e = .returned (.tuple #[.agg #[.int .i64 r1, .slice A r2.length c, .string r3, .string r4], .int .i64 0]) ∧ Kd.R Kd.string 9 w' w.heap.size (fun _ => True) (.slice A r2.length c) r2 ∧ Below w.heap.size w w' := by
  have HS := Aside0.mk (hS.below (below_alloc (Below.refl w.heap.size w) (.cells #[.int .i64 0, .slice none 0 0, .string ⟨#[]⟩, .string ⟨#[]⟩] 24)))
  have HG := Aside0.mk hg
  have HI := Aside0.mk hb
  have HT := Aside0.mk ht
  have HB := Aside0.mk (below_alloc (Below.refl w.heap.size w) (.cells #[.int .i64 0, .slice none 0 0, .string ⟨#[]⟩, .string ⟨#[]⟩] 24))
  clear hS hg hb ht
  go_enter Tryd.func20, Tryd.ntmps20
  go_wp2_with (first | (go_at_call 45; (with_reducible refine (commit_Load.get_ base g F s name x true _ HS.out hz HG.out).mono ?_); rintro e w1 ⟨rfl, rfl⟩) | (go_at_call 12; (with_reducible refine (commit_Load.isy x true HI.out _).mono ?_); rintro e w2 ⟨rfl, ⟨nd, rfl⟩⟩) | (go_at_call 9; (with_reducible refine (commit_Take.calls x r1 r2 r3 r4 0 _ HT.out).mono ?_); rintro e w3 ⟨v1, rfl, hR, hb3⟩; obtain ⟨A1, c1, rfl⟩ := Kd.R_slice hR; have HR3 := Aside0.mk hR; have HB3 := Aside0.mk (below_step (pw_below_drewN HB.out nd) hb3); have HC := Aside0.mk (M.rec_below (M.rec_drewN (M.rec_new w 24 commit_Load.zero_) nd) hb3); clear hR hb3) | ((with_reducible refine gate_dst (N := 32) rfl ?_); refine M.wp_rec_load rfl 24 _ rfl w3.heap.size 24 [.int .i64 r1, .slice A1 r2.length c1, .string r3, .string r4] rfl (M.rec_new w3 24 [.int .i64 r1, .slice A1 r2.length c1, .string r3, .string r4]) _ Tryd.underlying24 rfl commit_Load.size_ ?_) | ((with_reducible refine gate_store (t := 24) (p := 4) (v := .tmp 32) rfl ?_); refine M.wp_rec_store rfl 24 _ _ rfl w.heap.size 24 commit_Load.zero_ [.int .i64 r1, .slice A1 r2.length c1, .string r3, .string r4] rfl rfl (M.rec_alloc HC.out _) rfl commit_Load.size_ rfl ?_; intro w4 hA4 hF4 hB4 hz4; have HB4 := Aside0.mk (hB4 _ _ (Nat.le_refl _) (below_alloc HB3.out _)); have HA4 := Aside0.mk hA4; have HR4 := Aside0.mk (Kd.R_lower (M.row_past HR3.out (M.alloc_lt w _) _ hF4) (Nat.le_of_lt (M.alloc_lt w _))); clear hA4 hF4 hB4 hz4))
  exact bodyPost_ret (v := .tuple #[.agg #[.int .i64 r1, .slice A1 r2.length c1, .string r3, .string r4], .int .i64 0]) (M.results_rec2 Tryd.results20 _ (by rfl) HA4.out Tryd.underlying24 rfl commit_Load.size_) rfl ⟨A1, c1, rfl, HR4.out, HB4.out⟩

/-! ### sha_New: function 62 -/
set_option maxHeartbeats 8000000 in
set_option maxRecDepth 100000 in
theorem sha_New.calls (w : World) (hT : M.stab w) :
    Calls Tryd.prog 62 #[] w fun e w' => ∃ g, e = .returned (.pointer (some ⟨g, 0, none⟩)) ∧ M.hash w' g 123 0x6a09e667 0xbb67ae85 0x3c6ef372 0xa54ff53a 0x510e527f 0x9b05688c 0x1f83d9ab 0x5be0cd19 (.slice none 0 0) 0 ∧ Below w.heap.size w w' ∧ w.heap.size ≤ g := by
  have c0 := hT.1 0 (by decide)
  have c1 := hT.1 1 (by decide)
  have c2 := hT.1 2 (by decide)
  have c3 := hT.1 3 (by decide)
  have c4 := hT.1 4 (by decide)
  have c5 := hT.1 5 (by decide)
  have c6 := hT.1 6 (by decide)
  have c7 := hT.1 7 (by decide)
  simp only [M.shaH, List.getD_cons_zero, List.getD_cons_succ] at c0 c1 c2 c3 c4 c5 c6 c7
  clear hT
  have a82 := Tryd.isAgg82
  have z82 := Tryd.sizeOf82
  go_enter Tryd.func62, Tryd.ntmps62
  go_wp2
  go_ret
  exact ⟨w.heap.size, rfl, heap_alloc_new w _, below_alloc (Below.refl _ _) _, Nat.le_refl _⟩

/-! ### sha_Hash_there: function 74 -/
theorem sha_Hash_there.calls (g x0 x1 x2 x3 x4 x5 x6 x7 : Nat) (v : Value) (n : Int) (w : World) (hH : M.hash w g 123 x0 x1 x2 x3 x4 x5 x6 x7 v n) :
    Calls Tryd.prog 74 #[.pointer (some ⟨g, 0, none⟩)] w fun e w' => e = .returned (.bool true) ∧ w = w' := by
  have c10 := M.blk_cell hH 10 _ rfl
  clear hH
  go_enter Tryd.func74, Tryd.ntmps74
  go_wp2
  go_ret
  exact ⟨rfl, rfl⟩

/-! ### bits_RotateLeft32_p: function 81 -/
def bits_RotateLeft32_p.f (a0 : Int) (a1 : Int) : Option (Int) := if 0 ≤ (Go.bits .and .u64 (IntKind.u64.wrap (a1)) 31) then (if 0 ≤ (IntKind.u64.wrap (32 - (Go.bits .and .u64 (IntKind.u64.wrap (a1)) 31))) then (some (Go.bits .or .u32 (shl .u32 a0 (Go.bits .and .u64 (IntKind.u64.wrap (a1)) 31)) (shr .u32 a0 (IntKind.u64.wrap (32 - (Go.bits .and .u64 (IntKind.u64.wrap (a1)) 31)))))) else (none)) else (none)
set_option maxHeartbeats 8000000 in
set_option maxRecDepth 100000 in
theorem bits_RotateLeft32_p.calls (a0 : Int) (a1 : Int) (r : Int) (w : World) (h : bits_RotateLeft32_p.f a0 a1 = some r) :
    Calls Tryd.prog 81 #[.int .u32 a0, .int .i64 a1] w fun e w' => e = .returned (.int .u32 r) ∧ Drawn0 w w' := by
  have H : (if 0 ≤ (Go.bits .and .u64 (IntKind.u64.wrap (a1)) 31) then (if 0 ≤ (IntKind.u64.wrap (32 - (Go.bits .and .u64 (IntKind.u64.wrap (a1)) 31))) then (some (Go.bits .or .u32 (shl .u32 a0 (Go.bits .and .u64 (IntKind.u64.wrap (a1)) 31)) (shr .u32 a0 (IntKind.u64.wrap (32 - (Go.bits .and .u64 (IntKind.u64.wrap (a1)) 31)))))) else (none)) else (none)) = some r := h
  clear h
  obtain ⟨ji3, hji3⟩ : ∃ j_ : Int, (Go.bits .and .u64 (IntKind.u64.wrap (a1)) 31) = j_ := ⟨_, rfl⟩
  replace H : (if 0 ≤ (ji3) then (if 0 ≤ (IntKind.u64.wrap (32 - (ji3))) then (some (Go.bits .or .u32 (shl .u32 a0 (ji3)) (shr .u32 a0 (IntKind.u64.wrap (32 - (ji3)))))) else (none)) else (none)) = some r := by first | (rw [hji3] at H; exact H) | (simp only [hji3] at H ⊢; exact H)
  by_cases c4 : 0 ≤ (ji3)
  · rw [if_pos c4] at H
    have c4b0 := eq_true c4
    have c4b1 : decide (0 ≤ (ji3)) = true := decide_eq_true c4
    clear c4
    obtain ⟨ji5, hji5⟩ : ∃ j_ : Int, (shl .u32 a0 (ji3)) = j_ := ⟨_, rfl⟩
    replace H : (if 0 ≤ (IntKind.u64.wrap (32 - (ji3))) then (some (Go.bits .or .u32 (ji5) (shr .u32 a0 (IntKind.u64.wrap (32 - (ji3)))))) else (none)) = some r := by first | (rw [hji5] at H; exact H) | (simp only [hji5] at H ⊢; exact H)
    have hji5_ : (IntKind.u32.wrap (a0 * 2 ^ min (ji3).toNat 32)) = ji5 := hji5
    have hji5z : (ji3) ≤ 32 → (IntKind.u32.wrap (a0 * 2 ^ (ji3).toNat)) = ji5 := shl_small hji5
    obtain ⟨ji6, hji6⟩ : ∃ j_ : Int, (IntKind.u64.wrap (32 - (ji3))) = j_ := ⟨_, rfl⟩
    replace H : (if 0 ≤ (ji6) then (some (Go.bits .or .u32 (ji5) (shr .u32 a0 (ji6)))) else (none)) = some r := by first | (rw [hji6] at H; exact H) | (simp only [hji6] at H ⊢; exact H)
    by_cases c7 : 0 ≤ (ji6)
    · rw [if_pos c7] at H
      have c7b0 := eq_true c7
      have c7b1 : decide (0 ≤ (ji6)) = true := decide_eq_true c7
      clear c7
      obtain ⟨ji8, hji8⟩ : ∃ j_ : Int, (shr .u32 a0 (ji6)) = j_ := ⟨_, rfl⟩
      replace H : (some (Go.bits .or .u32 (ji5) (ji8))) = some r := by first | (rw [hji8] at H; exact H) | (simp only [hji8] at H ⊢; exact H)
      have hji8_ : (a0 / 2 ^ min (ji6).toNat 32) = ji8 := hji8
      have hji8z : (ji6) ≤ 32 → (a0 / 2 ^ (ji6).toNat) = ji8 := shr_small hji8
      obtain rfl := Option.some.inj H
      go_enter Tryd.func81, Tryd.ntmps81
      go_wp2
      go_ret
      exact ⟨by first | rfl | (simp; done) | (simp only [← hji3, ← hji5, ← hji6, ← hji8] <;> (first | rfl | simp)) | (simp [*]; done), by repeat (first | exact Drawn0.refl _ | apply Drawn0.step)⟩
    · rw [if_neg c7] at H
      exact absurd H (by simp)
  · rw [if_neg c4] at H
    exact absurd H (by simp)

-- this session's own plain form
def bits_RotateLeft32.f (x k : Int) : Option Int := if 0 ≤ x ∧ x < 4294967296 ∧ -32 < k ∧ k < 0 then some ((M.rotr x.toNat (-k).toNat : Nat) : Int) else none
theorem bits_RotateLeft32.ev (x k r : Int) (h : bits_RotateLeft32.f x k = some r) : bits_RotateLeft32_p.f x k = some r := by
  unfold bits_RotateLeft32.f at h
  split at h
  case isFalse => cases h
  case isTrue hh =>
    obtain ⟨h0, h1, h2, h3⟩ := hh
    obtain ⟨y, rfl⟩ := Int.eq_ofNat_of_zero_le h0
    obtain ⟨n, hn⟩ := Int.eq_ofNat_of_zero_le (show 0 ≤ -k by omega)
    obtain rfl : k = -(n : Int) := by omega
    have hw : IntKind.u64.wrap (-(n : Int)) = ((18446744073709551616 - n : Nat) : Int) := by rw [M.u64_wrap]; omega
    have ha : Go.bits .and .u64 ((18446744073709551616 - n : Nat) : Int) 31 = ((32 - n : Nat) : Int) := by
      have := Go.bits_mask .u64 64 (by decide) (fun n h0 h1 => by rw [M.u64_wrap]; omega) 5 (by decide) (((18446744073709551616 - n : Nat) : Int)) (by omega) (by omega)
      rw [show ((2 : Int) ^ 5 - 1) = 31 from rfl, show ((2 : Int) ^ 5) = 32 from rfl] at this
      rw [this]; omega
    have hs : IntKind.u64.wrap (32 - ((32 - n : Nat) : Int)) = (n : Int) := by rw [M.u64_wrap]; omega
    rw [Int.neg_neg, Int.toNat_natCast, Int.toNat_natCast] at h
    rw [← h]
    unfold bits_RotateLeft32_p.f
    rw [hw, ha, hs, if_pos (by omega), if_pos (by omega)]
    have e1 : shl .u32 (y : Int) ((32 - n : Nat) : Int) = ((y * 2 ^ (32 - n) % 4294967296 : Nat) : Int) := by
      unfold shl
      rw [Int.toNat_natCast, show min (32 - n) IntKind.u32.bits = 32 - n from by show min (32 - n) 32 = 32 - n; omega, M.u32_wrap]
      rw [Int.natCast_emod, Int.natCast_mul, Int.natCast_pow]; rfl
    have e2 : shr .u32 (y : Int) (n : Int) = ((y / 2 ^ n : Nat) : Int) := by
      unfold shr
      rw [Int.toNat_natCast, show min n IntKind.u32.bits = n from by show min n 32 = n; omega]
      rw [Int.natCast_ediv, Int.natCast_pow]; rfl
    rw [e1, e2, M.or32 (Nat.mod_lt _ (by decide)) (Nat.lt_of_le_of_lt (Nat.div_le_self _ _) (by omega))]
    rfl
theorem bits_RotateLeft32.calls (a0 : Int) (a1 : Int) (r : Int) (w : World) (h : bits_RotateLeft32.f a0 a1 = some r) :
    Calls Tryd.prog 81 #[.int .u32 a0, .int .i64 a1] w fun e w' => e = .returned (.int .u32 r) ∧ Drawn0 w w' := by
  exact bits_RotateLeft32_p.calls (w := w) (h := bits_RotateLeft32.ev _ _ _ h)

end Go.Proofs.YtikdbklmhjlfoaaDoor.ECommitPuts
