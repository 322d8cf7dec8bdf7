-- Written by this session's own program (wip/tools/ext.py) for this claim; Lean checks it.
import Derived.Test.YtacjpkfpniolmaaDoorEFrameTakesx0
import Derived.Test.YtacjpkfpniolmaaDoorEFrameTakesx3
import Derived.Test.YtacjpkfpniolmaaDoorEFrameTakesx5
namespace Go.Proofs.YtacjpkfpniolmaaDoor.EFrameTakes
open Go.RowKit Go.Proofs.YtacjpkfpniolmaaDoorW.PrintWords Go.Proofs.YtacjpkfpniolmaaDoorW.PrintLast Go.Proofs.YtacjpkfpniolmaaDoorW.PrintMore
attribute [local go_sem] M.run_leq M.run_gtr M.run_geq max2_int min2_int max_two min_two max_three min_three max_four min_four   -- for this text's walks alone
set_option linter.unusedVariables false
set_option linter.unusedSimpArgs false

/-! ### pleachref02_Open_p: function 36 -/
def pleachref02_Open_p.f (a0 : ByteArray) : Option (ByteArray × Bool) := if (wrap64 ((a0.size : Int) - 4)) < 0 then (some ((⟨#[]⟩ : ByteArray), false)) else (if 0 ≤ (wrap64 ((a0.size : Int) - 4)) then (if (wrap64 ((a0.size : Int) - 4)) ≤ (a0.size : Int) then ((pleachref02_On.f 0 (a0.extract 0 ((wrap64 ((a0.size : Int) - 4)) : Int).toNat)).bind fun t240 => ((pleachref02_Tail.f t240).bind fun t241 => (if t241.toList = (a0.extract ((wrap64 ((a0.size : Int) - 4)) : Int).toNat a0.size).toList then (some (a0.extract 0 ((wrap64 ((a0.size : Int) - 4)) : Int).toNat, true)) else (some ((⟨#[]⟩ : ByteArray), false))))) else (none)) else (none))
def pleachref02_Open_p.T2 : Bool × List (List Nat × List Nat) := (true, [([], []), ([0], [0]), ([1], [1]), ([2], [2]), ([2], [2]), ([3, 4, 2], [2, 3, 4]), ([5, 2, 2], [2, 5]), ([6, 6, 2], [2, 6]), ([2], [2]), ([2], [2]), ([8, 9, 2], [2, 8, 9]), ([7, 10, 2], [2, 7, 10]), ([2, 11], [2, 11])])
def pleachref02_Open_p.B2 : List Nat := [0, 1, 3, 7, 7, 31, 63, 127, 7, 7, 775, 2047, 4095]
theorem pleachref02_Open_p.tab2 : rtab .any (opsOf Tryd.f36 2) = pleachref02_Open_p.T2 := by kernel_rfl
theorem pleachref02_Open_p.bits2 : waitsOk pleachref02_Open_p.T2.2 pleachref02_Open_p.B2 = true := by kernel_rfl
set_option maxHeartbeats 8000000 in
set_option maxRecDepth 100000 in
theorem pleachref02_Open_p.calls (a0 : ByteArray) (r1 : ByteArray) (r2 : Bool) (w : World) (h : pleachref02_Open_p.f a0 = some (r1, r2)) :
    Calls Tryd.prog 36 #[.string a0] w fun e w' => e = .returned (.tuple #[.string r1, .bool r2]) ∧ Below w.heap.size w w' := by
  have HB := Aside0.mk (Below.refl w.heap.size w)
  have H : (if (wrap64 ((a0.size : Int) - 4)) < 0 then (some ((⟨#[]⟩ : ByteArray), false)) else (if 0 ≤ (wrap64 ((a0.size : Int) - 4)) then (if (wrap64 ((a0.size : Int) - 4)) ≤ (a0.size : Int) then ((pleachref02_On.f 0 (a0.extract 0 ((wrap64 ((a0.size : Int) - 4)) : Int).toNat)).bind fun t240 => ((pleachref02_Tail.f t240).bind fun t241 => (if t241.toList = (a0.extract ((wrap64 ((a0.size : Int) - 4)) : Int).toNat a0.size).toList then (some (a0.extract 0 ((wrap64 ((a0.size : Int) - 4)) : Int).toNat, true)) else (some ((⟨#[]⟩ : ByteArray), false))))) else (none)) else (none))) = some (r1, r2) := h
  clear h
  by_cases c2 : (wrap64 ((a0.size : Int) - 4)) < 0
  · rw [if_pos c2] at H
    have c2b0 : decide ((wrap64 ((a0.size : Int) - 4)) < 0) = true := decide_eq_true c2
    clear c2
    simp only [Option.some.injEq, Prod.mk.injEq] at H
    obtain ⟨rfl, rfl⟩ := H
    go_enter Tryd.func36, Tryd.ntmps36
    try go_wp2
    have n0_ := Aside0.mk (below_drew1 HB.out)
    clear HB
    have HB := n0_
    clear n0_
    refine start_ (n := 13) (S := fun w' => True) (ds := []) (M.tf [0, 13]) (by kernel_rfl) rfl rfl trivial (fun hHeld => ?_); refine with_tabW pleachref02_Open_p.tab2 pleachref02_Open_p.bits2 (fun HT_ HW_ => ?_)
    generalize w.drew = w3 at HB hHeld ⊢
    refine pure_ (i := 0) (N := some 8) (v := ?_) (a' := ?_) (M.tf [1, 12]) rfl rfl (any_of HT_.out (by kernel_rfl)) (fun _ _ _ h => h) (Or.inl ⟨by rfl, ?_⟩) ?_ ?_
    rotate_left
    · intro w'
      go_simp
      with_reducible rfl
    rotate_left
    · simp only [Act.put, List.setIfInBounds_toArray, List.set_cons_zero, List.set_cons_succ, i64_w, i32_w]
      rfl
    refine pure_ (i := 1) (N := some 9) (v := ?_) (a' := ?_) (M.tf [2, 11]) rfl rfl (any_of HT_.out (by kernel_rfl)) (fun _ _ _ h => h) (Or.inl ⟨by rfl, ?_⟩) ?_ ?_
    rotate_left
    · intro w'
      go_simp
      with_reducible rfl
    rotate_left
    · simp only [Act.put, List.setIfInBounds_toArray, List.set_cons_zero, List.set_cons_succ, i64_w, i32_w]
      rfl
    refine pure_ (i := 2) (N := some 10) (v := ?_) (a' := ?_) (M.tf [3, 10]) rfl rfl (any_of HT_.out (by kernel_rfl)) (fun _ _ _ h => h) (Or.inl ⟨by rfl, ?_⟩) ?_ ?_
    rotate_left
    · intro w'
      go_simp
      with_reducible rfl
    rotate_left
    · simp only [Act.put, List.setIfInBounds_toArray, List.set_cons_zero, List.set_cons_succ, i64_w, i32_w]
      rfl
    refine pure_ (i := 3) (N := some 11) (v := undef) (a' := ?_) (M.tf [4, 9]) rfl rfl (any_of HT_.out (by kernel_rfl)) (fun _ _ _ h => h) (Or.inr ⟨by rfl, rfl⟩) ?_ ?_
    rotate_left
    · simp only [Act.put, List.setIfInBounds_toArray, List.set_cons_zero, List.set_cons_succ, i64_w, i32_w]
      rfl
    refine pure_ (i := 4) (N := some 12) (v := undef) (a' := ?_) (M.tf [5, 8]) rfl rfl (any_of HT_.out (by kernel_rfl)) (fun _ _ _ h => h) (Or.inr ⟨by rfl, rfl⟩) ?_ ?_
    rotate_left
    · simp only [Act.put, List.setIfInBounds_toArray, List.set_cons_zero, List.set_cons_succ, i64_w, i32_w]
      rfl
    refine pure_ (i := 5) (N := some 13) (v := undef) (a' := ?_) (M.tf [6, 7]) rfl rfl (any_of HT_.out (by kernel_rfl)) (fun _ _ _ h => h) (Or.inr ⟨by rfl, rfl⟩) ?_ ?_
    rotate_left
    · simp only [Act.put, List.setIfInBounds_toArray, List.set_cons_zero, List.set_cons_succ, i64_w, i32_w]
      rfl
    refine pure_ (i := 6) (N := some 14) (v := undef) (a' := ?_) (M.tf [7, 6]) rfl rfl (any_of HT_.out (by kernel_rfl)) (fun _ _ _ h => h) (Or.inr ⟨by rfl, rfl⟩) ?_ ?_
    rotate_left
    · simp only [Act.put, List.setIfInBounds_toArray, List.set_cons_zero, List.set_cons_succ, i64_w, i32_w]
      rfl
    refine pure_ (i := 7) (N := some 15) (v := undef) (a' := ?_) (M.tf [8, 5]) rfl rfl (any_of HT_.out (by kernel_rfl)) (fun _ _ _ h => h) (Or.inr ⟨by rfl, rfl⟩) ?_ ?_
    rotate_left
    · simp only [Act.put, List.setIfInBounds_toArray, List.set_cons_zero, List.set_cons_succ, i64_w, i32_w]
      rfl
    refine pure_ (i := 8) (N := some 16) (v := undef) (a' := ?_) (M.tf [9, 4]) rfl rfl (any_of HT_.out (by kernel_rfl)) (fun _ _ _ h => h) (Or.inr ⟨by rfl, rfl⟩) ?_ ?_
    rotate_left
    · simp only [Act.put, List.setIfInBounds_toArray, List.set_cons_zero, List.set_cons_succ, i64_w, i32_w]
      rfl
    refine pure_ (i := 9) (N := some 17) (v := undef) (a' := ?_) (M.tf [10, 3]) rfl rfl (any_of HT_.out (by kernel_rfl)) (fun _ _ _ h => h) (Or.inr ⟨by rfl, rfl⟩) ?_ ?_
    rotate_left
    · simp only [Act.put, List.setIfInBounds_toArray, List.set_cons_zero, List.set_cons_succ, i64_w, i32_w]
      rfl
    refine pure_ (i := 10) (N := some 18) (v := undef) (a' := ?_) (M.tf [11, 2]) rfl rfl (any_of HT_.out (by kernel_rfl)) (fun _ _ _ h => h) (Or.inr ⟨by rfl, rfl⟩) ?_ ?_
    rotate_left
    · simp only [Act.put, List.setIfInBounds_toArray, List.set_cons_zero, List.set_cons_succ, i64_w, i32_w]
      rfl
    refine pure_ (i := 11) (N := some 19) (v := undef) (a' := ?_) (M.tf [12, 1]) rfl rfl (any_of HT_.out (by kernel_rfl)) (fun _ _ _ h => h) (Or.inr ⟨by rfl, rfl⟩) ?_ ?_
    rotate_left
    · simp only [Act.put, List.setIfInBounds_toArray, List.set_cons_zero, List.set_cons_succ, i64_w, i32_w]
      rfl
    refine pure_ (i := 12) (N := some 20) (v := ?_) (a' := ?_) (M.tf [13]) rfl rfl (any_of HT_.out (by kernel_rfl)) (fun _ _ _ h => h) (Or.inl ⟨by rfl, ?_⟩) ?_ ?_
    rotate_left
    · intro w'
      go_simp
      with_reducible rfl
    rotate_left
    · simp only [Act.put, List.setIfInBounds_toArray, List.set_cons_zero, List.set_cons_succ, i64_w, i32_w]
      rfl
    refine done_ (done_of HT_.out (by kernel_rfl)) ?_
    try go_wp2
    go_ret2
    exact M.fin (M.up HB)
  · rw [if_neg c2] at H
    have c2b0 : decide ((wrap64 ((a0.size : Int) - 4)) < 0) = false := decide_eq_false c2
    clear c2
    obtain ⟨ji4, hji4⟩ : ∃ j_ : Int, (wrap64 ((a0.size : Int) - 4)) = j_ := ⟨_, rfl⟩
    replace H : (if 0 ≤ (ji4) then (if (ji4) ≤ (a0.size : Int) then ((pleachref02_On.f 0 (a0.extract 0 ((ji4) : Int).toNat)).bind fun t240 => ((pleachref02_Tail.f t240).bind fun t241 => (if t241.toList = (a0.extract ((ji4) : Int).toNat a0.size).toList then (some (a0.extract 0 ((ji4) : Int).toNat, true)) else (some ((⟨#[]⟩ : ByteArray), false))))) else (none)) else (none)) = some (r1, r2) := by first | (rw [hji4] at H; exact H) | (simp only [hji4] at H ⊢; exact H)
    (try rw [hji4] at c2b0)
    have hji4w : (IntKind.i64.wrap ((a0.size : Int) - 4)) = ji4 := (i64_w _).trans hji4
    by_cases c5 : 0 ≤ (ji4)
    · rw [if_pos c5] at H
      have c5b0 := eq_true c5
      have c5b1 : decide (0 ≤ (ji4)) = true := decide_eq_true c5
      clear c5
      by_cases c6 : (ji4) ≤ (a0.size : Int)
      · rw [if_pos c6] at H
        have c6b0 := eq_true c6
        have c6b1 : decide ((ji4) ≤ (a0.size : Int)) = true := decide_eq_true c6
        clear c6
        replace H := Option.bind_eq_some_iff.mp H
        obtain ⟨t240, A70, H⟩ := H
        replace H : ((pleachref02_Tail.f t240).bind fun t241 => (if t241.toList = (a0.extract ((ji4) : Int).toNat a0.size).toList then (some (a0.extract 0 ((ji4) : Int).toNat, true)) else (some ((⟨#[]⟩ : ByteArray), false)))) = some (r1, r2) := H
        have A7 := Aside0.mk A70
        clear A70
        replace H := Option.bind_eq_some_iff.mp H
        obtain ⟨t241, A80, H⟩ := H
        replace H : (if t241.toList = (a0.extract ((ji4) : Int).toNat a0.size).toList then (some (a0.extract 0 ((ji4) : Int).toNat, true)) else (some ((⟨#[]⟩ : ByteArray), false))) = some (r1, r2) := H
        have A8 := Aside0.mk A80
        clear A80
        have c9b0 := eq_true (of_decide_eq_true (by first | (with_reducible assumption) | assumption) : 0 ≤ (ji4))
        have c10b0 := eq_true (of_decide_eq_true (by first | (with_reducible assumption) | assumption) : (ji4) ≤ (a0.size : Int))
        by_cases c11 : t241.toList = (a0.extract ((ji4) : Int).toNat a0.size).toList
        · rw [if_pos c11] at H
          have c11b0 : (t241.toList == (a0.extract ((ji4) : Int).toNat a0.size).toList) = true := beq_iff_eq.mpr c11
          have c11b1 : (t241.toList != (a0.extract ((ji4) : Int).toNat a0.size).toList) = false := bne_eq_false_iff_eq.mpr c11
          clear c11
          have c12b0 := eq_true (of_decide_eq_true (by first | (with_reducible assumption) | assumption) : 0 ≤ (ji4))
          have c13b0 := eq_true (of_decide_eq_true (by first | (with_reducible assumption) | assumption) : (ji4) ≤ (a0.size : Int))
          simp only [Option.some.injEq, Prod.mk.injEq] at H
          obtain ⟨rfl, rfl⟩ := H
          go_enter Tryd.func36, Tryd.ntmps36
          try go_wp2
          have n0_ := Aside0.mk (below_drew1 HB.out)
          clear HB
          have HB := n0_
          clear n0_
          refine start_ (n := 13) (S := fun w' => True) (ds := []) (M.tf [0, 13]) (by kernel_rfl) rfl rfl trivial (fun hHeld => ?_); refine with_tabW pleachref02_Open_p.tab2 pleachref02_Open_p.bits2 (fun HT_ HW_ => ?_)
          generalize w.drew = w14 at HB hHeld ⊢
          refine pure_ (i := 0) (N := some 8) (v := ?_) (a' := ?_) (M.tf [1, 12]) rfl rfl (any_of HT_.out (by kernel_rfl)) (fun _ _ _ h => h) (Or.inl ⟨by rfl, ?_⟩) ?_ ?_
          rotate_left
          · intro w'
            go_simp
            with_reducible rfl
          rotate_left
          · simp only [Act.put, List.setIfInBounds_toArray, List.set_cons_zero, List.set_cons_succ, i64_w, i32_w]
            rfl
          refine pure_ (i := 1) (N := some 9) (v := ?_) (a' := ?_) (M.tf [2, 11]) rfl rfl (any_of HT_.out (by kernel_rfl)) (fun _ _ _ h => h) (Or.inl ⟨by rfl, ?_⟩) ?_ ?_
          rotate_left
          · intro w'
            go_simp
            with_reducible rfl
          rotate_left
          · simp only [Act.put, List.setIfInBounds_toArray, List.set_cons_zero, List.set_cons_succ, i64_w, i32_w]
            rfl
          refine pure_ (i := 2) (N := some 10) (v := ?_) (a' := ?_) (M.tf [3, 10]) rfl rfl (any_of HT_.out (by kernel_rfl)) (fun _ _ _ h => h) (Or.inl ⟨by rfl, ?_⟩) ?_ ?_
          rotate_left
          · intro w'
            go_simp
            with_reducible rfl
          rotate_left
          · simp only [Act.put, List.setIfInBounds_toArray, List.set_cons_zero, List.set_cons_succ, i64_w, i32_w]
            rfl
          refine pure_ (i := 3) (N := some 11) (v := ?_) (a' := ?_) (M.tf [4, 9]) rfl rfl (any_of HT_.out (by kernel_rfl)) (fun _ _ _ h => h) (Or.inl ⟨by rfl, ?_⟩) ?_ ?_
          rotate_left
          · intro w'
            go_simp
            with_reducible rfl
          rotate_left
          · simp only [Act.put, List.setIfInBounds_toArray, List.set_cons_zero, List.set_cons_succ, i64_w, i32_w]
            rfl
          refine pure_ (i := 4) (N := some 12) (v := ?_) (a' := ?_) (M.tf [5, 8]) rfl rfl (any_of HT_.out (by kernel_rfl)) (fun _ _ _ h => h) (Or.inl ⟨by rfl, ?_⟩) ?_ ?_
          rotate_left
          · intro w'
            go_simp
            with_reducible rfl
          rotate_left
          · simp only [Act.put, List.setIfInBounds_toArray, List.set_cons_zero, List.set_cons_succ, i64_w, i32_w]
            rfl
          refine pure_ (i := 5) (N := some 13) (v := ?_) (a' := ?_) (M.tf [6, 7]) rfl rfl (any_of HT_.out (by kernel_rfl)) (fun _ _ _ h => h) (Or.inl ⟨by rfl, ?_⟩) ?_ ?_
          rotate_left
          · intro w'
            go_simp
            with_reducible rfl
          rotate_left
          · simp only [Act.put, List.setIfInBounds_toArray, List.set_cons_zero, List.set_cons_succ, i64_w, i32_w]
            rfl
          refine pure_ (i := 8) (N := some 16) (v := ?_) (a' := ?_) (M.tf [6, 2, 1, 4]) rfl rfl (any_of HT_.out (by kernel_rfl)) (fun _ _ _ h => h) (Or.inl ⟨by rfl, ?_⟩) ?_ ?_
          rotate_left
          · intro w'
            go_simp
            with_reducible rfl
          rotate_left
          · simp only [Act.put, List.setIfInBounds_toArray, List.set_cons_zero, List.set_cons_succ, i64_w, i32_w]
            rfl
          refine pure_ (i := 9) (N := some 17) (v := ?_) (a' := ?_) (M.tf [6, 2, 2, 3]) rfl rfl (any_of HT_.out (by kernel_rfl)) (fun _ _ _ h => h) (Or.inl ⟨by rfl, ?_⟩) ?_ ?_
          rotate_left
          · intro w'
            go_simp
            with_reducible rfl
          rotate_left
          · simp only [Act.put, List.setIfInBounds_toArray, List.set_cons_zero, List.set_cons_succ, i64_w, i32_w]
            rfl
          refine pure_ (i := 10) (N := some 18) (v := ?_) (a' := ?_) (M.tf [6, 2, 3, 2]) rfl rfl (any_of HT_.out (by kernel_rfl)) (fun _ _ _ h => h) (Or.inl ⟨by rfl, ?_⟩) ?_ ?_
          rotate_left
          · intro w'
            go_simp
            with_reducible rfl
          rotate_left
          · simp only [Act.put, List.setIfInBounds_toArray, List.set_cons_zero, List.set_cons_succ, i64_w, i32_w]
            rfl
          refine one_ (i := 6) (N := some 14) (M.tf [7, 1, 3, 2]) rfl rfl (one_of HT_.out (by kernel_rfl)) (by decide) (fun K hK => ?_)
          refine goes_ Tryd.func28 (by kernel_rfl) rfl #[.int .u32 0, .string (a0.extract 0 ((ji4) : Int).toNat)] (by rfl) rfl rfl (by (try simp only [List.map_toArray, List.map_cons, List.map_nil]); first | done | (simp only [hji4]; rfl) | rfl | (simp only [List.length_drop, List.length_take]; rfl)) ?_
          with_reducible refine (pleachref02_On.calls 0 (a0.extract 0 ((ji4) : Int).toNat) t240 _ A7.out).mono ?_
          rintro e w15 ⟨rfl, hb⟩
          refine ⟨_, rfl, ?_⟩
          have n0_ := M.upS HB hb
          clear HB
          have HB := n0_
          clear n0_
          (try clear hb)
          (try clear hb2)
          (try clear hk)
          (try clear hi)
          refine hK.out _ _ trivial (fun hHeld => ?_)
          clear hK K
          refine norm_ (a' := ?_) ?_ ?_
          rotate_left
          · show Act.put _ (some 14) _ = _
            simp only [Act.put, List.setIfInBounds_toArray, List.set_cons_zero, List.set_cons_succ, i64_w, i32_w]
            rfl
          refine one_ (i := 7) (N := some 15) (M.tf [11, 2]) rfl rfl (one_of HT_.out (by kernel_rfl)) (by decide) (fun K hK => ?_)
          refine goes_ Tryd.func27 (by kernel_rfl) rfl #[.int .u32 t240] (by rfl) rfl rfl (by (try simp only [List.map_toArray, List.map_cons, List.map_nil]); first | done | rfl | (simp only [List.length_drop, List.length_take]; rfl)) ?_
          with_reducible refine (pleachref02_Tail.calls t240 t241 _ A8.out).mono ?_
          rintro e w16 ⟨rfl, hb⟩
          refine ⟨_, rfl, ?_⟩
          have n0_ := M.upS HB hb
          clear HB
          have HB := n0_
          clear n0_
          (try clear hb)
          (try clear hb2)
          (try clear hk)
          (try clear hi)
          refine hK.out _ _ trivial (fun hHeld => ?_)
          clear hK K
          refine norm_ (a' := ?_) ?_ ?_
          rotate_left
          · show Act.put _ (some 15) _ = _
            simp only [Act.put, List.setIfInBounds_toArray, List.set_cons_zero, List.set_cons_succ, i64_w, i32_w]
            rfl
          refine pure_ (i := 11) (N := some 19) (v := ?_) (a' := ?_) (M.tf [12, 1]) rfl rfl (any_of HT_.out (by kernel_rfl)) (fun _ _ _ h => h) (Or.inl ⟨by rfl, ?_⟩) ?_ ?_
          rotate_left
          · intro w'
            go_simp
            with_reducible rfl
          rotate_left
          · simp only [Act.put, List.setIfInBounds_toArray, List.set_cons_zero, List.set_cons_succ, i64_w, i32_w]
            rfl
          refine pure_ (i := 12) (N := some 20) (v := ?_) (a' := ?_) (M.tf [13]) rfl rfl (any_of HT_.out (by kernel_rfl)) (fun _ _ _ h => h) (Or.inl ⟨by rfl, ?_⟩) ?_ ?_
          rotate_left
          · intro w'
            go_simp
            with_reducible rfl
          rotate_left
          · simp only [Act.put, List.setIfInBounds_toArray, List.set_cons_zero, List.set_cons_succ, i64_w, i32_w]
            rfl
          refine done_ (done_of HT_.out (by kernel_rfl)) ?_
          try go_wp2
          go_ret2
          exact ⟨by first | rfl | (simp [errW_none, errW_some] <;> rfl) | (simp only [← hji4]; first | rfl | (simp [errW_none, errW_some] <;> rfl)) | (simp [*, errW_none, errW_some] <;> rfl), M.up HB⟩
        · rw [if_neg c11] at H
          have c11b0 : (t241.toList == (a0.extract ((ji4) : Int).toNat a0.size).toList) = false := beq_eq_false_iff_ne.mpr c11
          have c11b1 : (t241.toList != (a0.extract ((ji4) : Int).toNat a0.size).toList) = true := bne_iff_ne.mpr c11
          simp only [Option.some.injEq, Prod.mk.injEq] at H
          obtain ⟨rfl, rfl⟩ := H
          go_enter Tryd.func36, Tryd.ntmps36
          try go_wp2
          have n0_ := Aside0.mk (below_drew1 HB.out)
          clear HB
          have HB := n0_
          clear n0_
          refine start_ (n := 13) (S := fun w' => True) (ds := []) (M.tf [0, 13]) (by kernel_rfl) rfl rfl trivial (fun hHeld => ?_); refine with_tabW pleachref02_Open_p.tab2 pleachref02_Open_p.bits2 (fun HT_ HW_ => ?_)
          generalize w.drew = w17 at HB hHeld ⊢
          refine pure_ (i := 0) (N := some 8) (v := ?_) (a' := ?_) (M.tf [1, 12]) rfl rfl (any_of HT_.out (by kernel_rfl)) (fun _ _ _ h => h) (Or.inl ⟨by rfl, ?_⟩) ?_ ?_
          rotate_left
          · intro w'
            go_simp
            with_reducible rfl
          rotate_left
          · simp only [Act.put, List.setIfInBounds_toArray, List.set_cons_zero, List.set_cons_succ, i64_w, i32_w]
            rfl
          refine pure_ (i := 1) (N := some 9) (v := ?_) (a' := ?_) (M.tf [2, 11]) rfl rfl (any_of HT_.out (by kernel_rfl)) (fun _ _ _ h => h) (Or.inl ⟨by rfl, ?_⟩) ?_ ?_
          rotate_left
          · intro w'
            go_simp
            with_reducible rfl
          rotate_left
          · simp only [Act.put, List.setIfInBounds_toArray, List.set_cons_zero, List.set_cons_succ, i64_w, i32_w]
            rfl
          refine pure_ (i := 2) (N := some 10) (v := ?_) (a' := ?_) (M.tf [3, 10]) rfl rfl (any_of HT_.out (by kernel_rfl)) (fun _ _ _ h => h) (Or.inl ⟨by rfl, ?_⟩) ?_ ?_
          rotate_left
          · intro w'
            go_simp
            with_reducible rfl
          rotate_left
          · simp only [Act.put, List.setIfInBounds_toArray, List.set_cons_zero, List.set_cons_succ, i64_w, i32_w]
            rfl
          refine pure_ (i := 3) (N := some 11) (v := ?_) (a' := ?_) (M.tf [4, 9]) rfl rfl (any_of HT_.out (by kernel_rfl)) (fun _ _ _ h => h) (Or.inl ⟨by rfl, ?_⟩) ?_ ?_
          rotate_left
          · intro w'
            go_simp
            with_reducible rfl
          rotate_left
          · simp only [Act.put, List.setIfInBounds_toArray, List.set_cons_zero, List.set_cons_succ, i64_w, i32_w]
            rfl
          refine pure_ (i := 4) (N := some 12) (v := ?_) (a' := ?_) (M.tf [5, 8]) rfl rfl (any_of HT_.out (by kernel_rfl)) (fun _ _ _ h => h) (Or.inl ⟨by rfl, ?_⟩) ?_ ?_
          rotate_left
          · intro w'
            go_simp
            with_reducible rfl
          rotate_left
          · simp only [Act.put, List.setIfInBounds_toArray, List.set_cons_zero, List.set_cons_succ, i64_w, i32_w]
            rfl
          refine pure_ (i := 5) (N := some 13) (v := ?_) (a' := ?_) (M.tf [6, 7]) rfl rfl (any_of HT_.out (by kernel_rfl)) (fun _ _ _ h => h) (Or.inl ⟨by rfl, ?_⟩) ?_ ?_
          rotate_left
          · intro w'
            go_simp
            with_reducible rfl
          rotate_left
          · simp only [Act.put, List.setIfInBounds_toArray, List.set_cons_zero, List.set_cons_succ, i64_w, i32_w]
            rfl
          refine pure_ (i := 8) (N := some 16) (v := ?_) (a' := ?_) (M.tf [6, 2, 1, 4]) rfl rfl (any_of HT_.out (by kernel_rfl)) (fun _ _ _ h => h) (Or.inl ⟨by rfl, ?_⟩) ?_ ?_
          rotate_left
          · intro w'
            go_simp
            with_reducible rfl
          rotate_left
          · simp only [Act.put, List.setIfInBounds_toArray, List.set_cons_zero, List.set_cons_succ, i64_w, i32_w]
            rfl
          refine pure_ (i := 9) (N := some 17) (v := ?_) (a' := ?_) (M.tf [6, 2, 2, 3]) rfl rfl (any_of HT_.out (by kernel_rfl)) (fun _ _ _ h => h) (Or.inl ⟨by rfl, ?_⟩) ?_ ?_
          rotate_left
          · intro w'
            go_simp
            with_reducible rfl
          rotate_left
          · simp only [Act.put, List.setIfInBounds_toArray, List.set_cons_zero, List.set_cons_succ, i64_w, i32_w]
            rfl
          refine pure_ (i := 10) (N := some 18) (v := ?_) (a' := ?_) (M.tf [6, 2, 3, 2]) rfl rfl (any_of HT_.out (by kernel_rfl)) (fun _ _ _ h => h) (Or.inl ⟨by rfl, ?_⟩) ?_ ?_
          rotate_left
          · intro w'
            go_simp
            with_reducible rfl
          rotate_left
          · simp only [Act.put, List.setIfInBounds_toArray, List.set_cons_zero, List.set_cons_succ, i64_w, i32_w]
            rfl
          refine one_ (i := 6) (N := some 14) (M.tf [7, 1, 3, 2]) rfl rfl (one_of HT_.out (by kernel_rfl)) (by decide) (fun K hK => ?_)
          refine goes_ Tryd.func28 (by kernel_rfl) rfl #[.int .u32 0, .string (a0.extract 0 ((ji4) : Int).toNat)] (by rfl) rfl rfl (by (try simp only [List.map_toArray, List.map_cons, List.map_nil]); first | done | (simp only [hji4]; rfl) | rfl | (simp only [List.length_drop, List.length_take]; rfl)) ?_
          with_reducible refine (pleachref02_On.calls 0 (a0.extract 0 ((ji4) : Int).toNat) t240 _ A7.out).mono ?_
          rintro e w18 ⟨rfl, hb⟩
          refine ⟨_, rfl, ?_⟩
          have n0_ := M.upS HB hb
          clear HB
          have HB := n0_
          clear n0_
          (try clear hb)
          (try clear hb2)
          (try clear hk)
          (try clear hi)
          refine hK.out _ _ trivial (fun hHeld => ?_)
          clear hK K
          refine norm_ (a' := ?_) ?_ ?_
          rotate_left
          · show Act.put _ (some 14) _ = _
            simp only [Act.put, List.setIfInBounds_toArray, List.set_cons_zero, List.set_cons_succ, i64_w, i32_w]
            rfl
          refine one_ (i := 7) (N := some 15) (M.tf [11, 2]) rfl rfl (one_of HT_.out (by kernel_rfl)) (by decide) (fun K hK => ?_)
          refine goes_ Tryd.func27 (by kernel_rfl) rfl #[.int .u32 t240] (by rfl) rfl rfl (by (try simp only [List.map_toArray, List.map_cons, List.map_nil]); first | done | rfl | (simp only [List.length_drop, List.length_take]; rfl)) ?_
          with_reducible refine (pleachref02_Tail.calls t240 t241 _ A8.out).mono ?_
          rintro e w19 ⟨rfl, hb⟩
          refine ⟨_, rfl, ?_⟩
          have n0_ := M.upS HB hb
          clear HB
          have HB := n0_
          clear n0_
          (try clear hb)
          (try clear hb2)
          (try clear hk)
          (try clear hi)
          refine hK.out _ _ trivial (fun hHeld => ?_)
          clear hK K
          refine norm_ (a' := ?_) ?_ ?_
          rotate_left
          · show Act.put _ (some 15) _ = _
            simp only [Act.put, List.setIfInBounds_toArray, List.set_cons_zero, List.set_cons_succ, i64_w, i32_w]
            rfl
          refine pure_ (i := 11) (N := some 19) (v := ?_) (a' := ?_) (M.tf [12, 1]) rfl rfl (any_of HT_.out (by kernel_rfl)) (fun _ _ _ h => h) (Or.inl ⟨by rfl, ?_⟩) ?_ ?_
          rotate_left
          · intro w'
            go_simp
            with_reducible rfl
          rotate_left
          · simp only [Act.put, List.setIfInBounds_toArray, List.set_cons_zero, List.set_cons_succ, i64_w, i32_w]
            rfl
          refine pure_ (i := 12) (N := some 20) (v := ?_) (a' := ?_) (M.tf [13]) rfl rfl (any_of HT_.out (by kernel_rfl)) (fun _ _ _ h => h) (Or.inl ⟨by rfl, ?_⟩) ?_ ?_
          rotate_left
          · intro w'
            go_simp
            with_reducible rfl
          rotate_left
          · simp only [Act.put, List.setIfInBounds_toArray, List.set_cons_zero, List.set_cons_succ, i64_w, i32_w]
            rfl
          refine done_ (done_of HT_.out (by kernel_rfl)) ?_
          try go_wp2
          go_ret2
          exact ⟨by first | rfl | (simp [errW_none, errW_some] <;> rfl) | (simp only [← hji4]; first | rfl | (simp [errW_none, errW_some] <;> rfl)) | (simp [*, errW_none, errW_some] <;> rfl), M.up HB⟩
      · rw [if_neg c6] at H
        exact absurd H (by simp)
    · rw [if_neg c5] at H
      exact absurd H (by simp)

-- this session's own plain form
def pleachref02_Open.f (a0 : ByteArray) : Option (ByteArray × Bool) := if a0.size ≤ 1000000000 then some (M.copen a0) else none
theorem pleachref02_Open.ev (a0 : ByteArray) (r : ByteArray × Bool) (h : pleachref02_Open.f a0 = some r) : pleachref02_Open_p.f a0 = some r := by
  unfold pleachref02_Open.f at h
  split at h
  case isFalse => cases h
  case isTrue hh =>
    rw [← h]
    unfold pleachref02_Open_p.f M.copen
    rw [M.wrap64_id (by omega) (by omega)]
    by_cases h4 : a0.size < 4
    · rw [if_pos (by omega), if_pos h4]; rfl
    · rw [if_neg (by omega), if_neg h4, if_pos (by omega), if_pos (by omega)]
      have e : ((a0.size : Int) - 4).toNat = a0.size - 4 := by omega
      have hz : (a0.extract 0 (a0.size - 4)).size ≤ 1000000000 := by rw [← M.bs_length, M.bs_take, List.length_take]; have := M.bs_length a0; omega
      have hc := M.con_lt (n := (0 : Int).toNat) (M.bs (a0.extract 0 (a0.size - 4)))
      unfold pleachref02_On.f pleachref02_Tail.f
      rw [e, if_pos ⟨by decide, by decide, hz⟩, Option.bind_some, if_pos ⟨by omega, by omega⟩, Option.bind_some, M.toList_bs, M.toList_bs, M.bs_sb, M.bs_drop, Int.toNat_natCast]
      show (if M.ctail (M.con 0 (M.bs (a0.extract 0 (a0.size - 4)))) = (M.bs a0).drop (a0.size - 4) then _ else _) = _
      rw [M.bs_take]
      split <;> rfl
theorem pleachref02_Open.calls (a0 : ByteArray) (r1 : ByteArray) (r2 : Bool) (w : World) (h : pleachref02_Open.f a0 = some (r1, r2)) :
    Calls Tryd.prog 36 #[.string a0] w fun e w' => e = .returned (.tuple #[.string r1, .bool r2]) ∧ Below w.heap.size w w' := by
  exact pleachref02_Open_p.calls (w := w) (h := pleachref02_Open.ev _ _ h)

/-! ### pleachref14_Read_p: function 17 -/
def pleachref14_Read_p.f (a0_0 : ByteArray) (a0_1 : Int) (a0_2 : Int) : Option (ByteArray × Int × Int × ByteArray) := (pleachref04_Text.f a0_0 a0_1 a0_2 65540).bind fun bt244 => (if bt244.2.2.1 = 0 then ((pleachref02_Open.f bt244.2.2.2).bind fun bt248 => (if bt248.2 = true then (if bt248.1.toList = ([] : List UInt8) then (some (bt244.1, bt244.2.1, 3, (⟨#[]⟩ : ByteArray))) else (some (bt244.1, bt244.2.1, bt244.2.2.1, bt248.1))) else (some (bt244.1, bt244.2.1, 3, (⟨#[]⟩ : ByteArray))))) else (some (bt244.1, bt244.2.1, bt244.2.2.1, (⟨#[]⟩ : ByteArray))))
set_option maxHeartbeats 8000000 in
set_option maxRecDepth 100000 in
theorem pleachref14_Read_p.calls (a0_0 : ByteArray) (a0_1 : Int) (a0_2 : Int) (r1 : ByteArray) (r2 : Int) (r3 : Int) (r4 : ByteArray) (w : World) (h : pleachref14_Read_p.f a0_0 a0_1 a0_2 = some (r1, r2, r3, r4)) :
    Calls Tryd.prog 17 #[.agg #[.string a0_0, .int .i64 a0_1, .int .i64 a0_2]] w fun e w' => e = .returned (.tuple #[.agg #[.string r1, .int .i64 r2, .int .i64 r3], .string r4]) ∧ Below w.heap.size w w' := by
  have hu39 := Tryd.underlying39
  have HB := Aside0.mk (Below.refl w.heap.size w)
  have H : ((pleachref04_Text.f a0_0 a0_1 a0_2 65540).bind fun bt244 => (if bt244.2.2.1 = 0 then ((pleachref02_Open.f bt244.2.2.2).bind fun bt248 => (if bt248.2 = true then (if bt248.1.toList = ([] : List UInt8) then (some (bt244.1, bt244.2.1, 3, (⟨#[]⟩ : ByteArray))) else (some (bt244.1, bt244.2.1, bt244.2.2.1, bt248.1))) else (some (bt244.1, bt244.2.1, 3, (⟨#[]⟩ : ByteArray))))) else (some (bt244.1, bt244.2.1, bt244.2.2.1, (⟨#[]⟩ : ByteArray))))) = some (r1, r2, r3, r4) := h
  clear h
  replace H := Option.bind_eq_some_iff.mp H
  obtain ⟨⟨t244, t245, t246, t247⟩, A20, H⟩ := H
  replace H : (if t246 = 0 then ((pleachref02_Open.f t247).bind fun bt248 => (if bt248.2 = true then (if bt248.1.toList = ([] : List UInt8) then (some (t244, t245, 3, (⟨#[]⟩ : ByteArray))) else (some (t244, t245, t246, bt248.1))) else (some (t244, t245, 3, (⟨#[]⟩ : ByteArray))))) else (some (t244, t245, t246, (⟨#[]⟩ : ByteArray)))) = some (r1, r2, r3, r4) := H
  have A2 := Aside0.mk A20
  clear A20
  by_cases c3 : t246 = 0
  · rw [if_pos c3] at H
    have c3b0 : (t246 == 0) = true := beq_iff_eq.mpr c3
    have c3b1 : (t246 != 0) = false := bne_eq_false_iff_eq.mpr c3
    clear c3
    replace H := Option.bind_eq_some_iff.mp H
    obtain ⟨⟨t248, t249⟩, A40, H⟩ := H
    replace H : (if t249 = true then (if t248.toList = ([] : List UInt8) then (some (t244, t245, 3, (⟨#[]⟩ : ByteArray))) else (some (t244, t245, t246, t248))) else (some (t244, t245, 3, (⟨#[]⟩ : ByteArray)))) = some (r1, r2, r3, r4) := H
    have A4 := Aside0.mk A40
    clear A40
    by_cases c5 : t249 = true
    · subst c5
      have H1 : (if t248.toList = ([] : List UInt8) then (some (t244, t245, 3, (⟨#[]⟩ : ByteArray))) else (some (t244, t245, t246, t248))) = some (r1, r2, r3, r4) := by rw [if_pos rfl] at H; exact H
      clear H
      have H := H1
      clear H1
      by_cases c6 : t248.toList = ([] : List UInt8)
      · rw [if_pos c6] at H
        have c6b0 : (t248.toList == ([] : List UInt8)) = true := beq_iff_eq.mpr c6
        have c6b1 : (t248.toList != ([] : List UInt8)) = false := bne_eq_false_iff_eq.mpr c6
        clear c6
        simp only [Option.some.injEq, Prod.mk.injEq] at H
        obtain ⟨rfl, rfl, rfl, rfl⟩ := H
        go_enter Tryd.func17, Tryd.ntmps17
        go_wp2_with (first | ((with_reducible refine gate_dst (N := 1) rfl ?_); refine box_event ?hg (N := 1) ?hd (cs := #[.string a0_0, .int .i64 a0_1, .int .i64 a0_2]) (t := 39) ?hr ?_; (case hd => rfl); (case hg => rfl); (case hr => first | (go_simp; done) | (go_simp; rfl)); intro zaa hg w7 hbox hb; have n0_ := M.upS HB hb; have n1_ := Aside0.mk (hbox); have n2_ := M.upG HB hg; have n3_ := M.upG HB hg; clear HB; have HB := n0_; have zab := n1_; have zac := n2_; have zad := n3_; clear n0_ n1_ n2_ n3_; clear hb hbox hg) | ((with_reducible refine gate_dst (N := 2) rfl ?_); refine box_event ?hg (N := 2) ?hd (cs := #[.string (⟨#[]⟩ : ByteArray), .int .i64 0, .int .i64 0]) (t := 39) ?hr ?_; (case hd => rfl); (case hg => rfl); (case hr => first | (go_simp; done) | (go_simp; rfl)); intro zae hg w8 hbox hb; have n0_ := M.bkB zab hb; have n1_ := M.upS HB hb; have n2_ := Aside0.mk (hbox); have n3_ := M.upG HB hg; have n4_ := M.upG HB hg; have n5_ := M.bkL zab hg; have n6_ := M.bkG zab hg; clear zab HB; have zab := n0_; have HB := n1_; have zaf := n2_; have zag := n3_; have zah := n4_; have zai := n5_; have zaj := n6_; clear n0_ n1_ n2_ n3_ n4_ n5_ n6_; clear hb hbox hg; have zak := zai.out; have zal := zaj.out; obtain ⟨zam, zan, zao⟩ := M.bc3 (w := w8) (a := .string a0_0) (b := .int .i64 a0_1) (c := .int .i64 a0_2) zab.out; obtain ⟨zap, zaq, zar⟩ := M.bf3 zab) | ((with_reducible refine gate_callee (f := 35) rfl ?_); refine M.goes (some 9) Tryd.func35 #[.agg #[.string a0_0, .int .i64 a0_1, .int .i64 a0_2], .int .i64 65540] rfl ?_; (with_reducible refine (pleachref04_Text.calls a0_0 a0_1 a0_2 65540 t244 t245 t246 t247 _ A2.out).mono ?_); rintro e w11 ⟨rfl, hb⟩; refine ⟨_, rfl, ?_⟩; have n0_ := M.bkB zab hb; have n1_ := M.bkB zaf hb; have n2_ := M.upS HB hb; clear zab zaf HB; have zab := n0_; have zaf := n1_; have HB := n2_; clear n0_ n1_ n2_; (try clear hb); obtain ⟨zas, zat, zau⟩ := M.bc3 (w := w11) (a := .string a0_0) (b := .int .i64 a0_1) (c := .int .i64 a0_2) zab.out; obtain ⟨zav, zaw, zax⟩ := M.bf3 zab) | ((with_reducible refine gate_callee (f := 36) rfl ?_); refine M.goes (some 18) Tryd.func36 #[.string t247] rfl ?_; (with_reducible refine (pleachref02_Open.calls t247 t248 true _ A4.out).mono ?_); rintro e w13 ⟨rfl, hb⟩; refine ⟨_, rfl, ?_⟩; have n0_ := Aside0.mk (blk_below (g := zaa) (o := .cells #[.string t244, .int .i64 t245, .int .i64 t246] 39 (0, 0)) (by (with_reducible repeat (first | refine blk_drewN ?_ _ | refine blk_drew ?_ | refine blk_alloc ?_ _)); refine blk_put (cs := #[.string t244, .int .i64 t245, .int .i64 a0_2]) ?_ 2 _ rfl; (with_reducible repeat (first | refine blk_drewN ?_ _ | refine blk_drew ?_ | refine blk_alloc ?_ _)); refine blk_put (cs := #[.string t244, .int .i64 a0_1, .int .i64 a0_2]) ?_ 1 _ rfl; (with_reducible repeat (first | refine blk_drewN ?_ _ | refine blk_drew ?_ | refine blk_alloc ?_ _)); refine blk_put (cs := #[.string a0_0, .int .i64 a0_1, .int .i64 a0_2]) ?_ 0 _ rfl; (with_reducible repeat (first | refine blk_drewN ?_ _ | refine blk_drew ?_ | refine blk_alloc ?_ _)); exact zab.out) hb); have n1_ := Aside0.mk (blk_below (g := zae) (o := .cells #[.string (⟨#[]⟩ : ByteArray), .int .i64 0, .int .i64 0] 39 (0, 0)) (by (with_reducible repeat (first | refine blk_drewN ?_ _ | refine blk_drew ?_ | refine blk_alloc ?_ _)); refine blk_far ?_ zaj.out _; (with_reducible repeat (first | refine blk_drewN ?_ _ | refine blk_drew ?_ | refine blk_alloc ?_ _)); refine blk_far ?_ zaj.out _; (with_reducible repeat (first | refine blk_drewN ?_ _ | refine blk_drew ?_ | refine blk_alloc ?_ _)); refine blk_far ?_ zaj.out _; (with_reducible repeat (first | refine blk_drewN ?_ _ | refine blk_drew ?_ | refine blk_alloc ?_ _)); exact zaf.out) hb); have n2_ := M.upS HB hb; clear zab zaf HB; have zab := n0_; have zaf := n1_; have HB := n2_; clear n0_ n1_ n2_; (try clear hb); obtain ⟨zay, zaz, zaA⟩ := M.bc3 (w := w13) (a := .string t244) (b := .int .i64 t245) (c := .int .i64 t246) zab.out; obtain ⟨zaB, zaC, zaD⟩ := M.bf3 zab; obtain ⟨zaE, zaF, zaG⟩ := M.bc3 (w := w13) (a := .string (⟨#[]⟩ : ByteArray)) (b := .int .i64 0) (c := .int .i64 0) zaf.out; obtain ⟨zaH, zaI, zaJ⟩ := M.bf3 zaf))
        refine bodyPost_ret (results_ct rfl _ _ zae 39 #[.string t244, .int .i64 t245, .int .i64 3] (0, 0) _ rfl (by (with_reducible repeat (first | refine blk_drewN ?_ _ | refine blk_drew ?_ | refine blk_alloc ?_ _)); refine blk_put (cs := #[.string t244, .int .i64 t245, .int .i64 0]) ?_ 2 _ rfl; (with_reducible repeat (first | refine blk_drewN ?_ _ | refine blk_drew ?_ | refine blk_alloc ?_ _)); refine blk_put (cs := #[.string t244, .int .i64 0, .int .i64 0]) ?_ 1 _ rfl; (with_reducible repeat (first | refine blk_drewN ?_ _ | refine blk_drew ?_ | refine blk_alloc ?_ _)); refine blk_put (cs := #[.string (⟨#[]⟩ : ByteArray), .int .i64 0, .int .i64 0]) ?_ 0 _ rfl; (with_reducible repeat (first | refine blk_drewN ?_ _ | refine blk_drew ?_ | refine blk_alloc ?_ _)); refine blk_far ?_ zaj.out _; (with_reducible repeat (first | refine blk_drewN ?_ _ | refine blk_drew ?_ | refine blk_alloc ?_ _)); exact zaf.out) Tryd.underlying39 rfl (by kernel_rfl)) rfl ?_
        exact M.fin (M.up HB)
      · rw [if_neg c6] at H
        have c6b0 : (t248.toList == ([] : List UInt8)) = false := beq_eq_false_iff_ne.mpr c6
        have c6b1 : (t248.toList != ([] : List UInt8)) = true := bne_iff_ne.mpr c6
        simp only [Option.some.injEq, Prod.mk.injEq] at H
        obtain ⟨rfl, rfl, rfl, rfl⟩ := H
        go_enter Tryd.func17, Tryd.ntmps17
        go_wp2_with (first | ((with_reducible refine gate_dst (N := 1) rfl ?_); refine box_event ?hg (N := 1) ?hd (cs := #[.string a0_0, .int .i64 a0_1, .int .i64 a0_2]) (t := 39) ?hr ?_; (case hd => rfl); (case hg => rfl); (case hr => first | (go_simp; done) | (go_simp; rfl)); intro zaa hg w16 hbox hb; have n0_ := M.upS HB hb; have n1_ := Aside0.mk (hbox); have n2_ := M.upG HB hg; have n3_ := M.upG HB hg; clear HB; have HB := n0_; have zab := n1_; have zac := n2_; have zad := n3_; clear n0_ n1_ n2_ n3_; clear hb hbox hg) | ((with_reducible refine gate_dst (N := 2) rfl ?_); refine box_event ?hg (N := 2) ?hd (cs := #[.string (⟨#[]⟩ : ByteArray), .int .i64 0, .int .i64 0]) (t := 39) ?hr ?_; (case hd => rfl); (case hg => rfl); (case hr => first | (go_simp; done) | (go_simp; rfl)); intro zae hg w17 hbox hb; have n0_ := M.bkB zab hb; have n1_ := M.upS HB hb; have n2_ := Aside0.mk (hbox); have n3_ := M.upG HB hg; have n4_ := M.upG HB hg; have n5_ := M.bkL zab hg; have n6_ := M.bkG zab hg; clear zab HB; have zab := n0_; have HB := n1_; have zaf := n2_; have zag := n3_; have zah := n4_; have zai := n5_; have zaj := n6_; clear n0_ n1_ n2_ n3_ n4_ n5_ n6_; clear hb hbox hg; have zaK := zai.out; have zaL := zaj.out; obtain ⟨zaM, zaN, zaO⟩ := M.bc3 (w := w17) (a := .string a0_0) (b := .int .i64 a0_1) (c := .int .i64 a0_2) zab.out; obtain ⟨zaP, zaQ, zaR⟩ := M.bf3 zab) | ((with_reducible refine gate_callee (f := 35) rfl ?_); refine M.goes (some 9) Tryd.func35 #[.agg #[.string a0_0, .int .i64 a0_1, .int .i64 a0_2], .int .i64 65540] rfl ?_; (with_reducible refine (pleachref04_Text.calls a0_0 a0_1 a0_2 65540 t244 t245 t246 t247 _ A2.out).mono ?_); rintro e w20 ⟨rfl, hb⟩; refine ⟨_, rfl, ?_⟩; have n0_ := M.bkB zab hb; have n1_ := M.bkB zaf hb; have n2_ := M.upS HB hb; clear zab zaf HB; have zab := n0_; have zaf := n1_; have HB := n2_; clear n0_ n1_ n2_; (try clear hb); obtain ⟨zaS, zaT, zaU⟩ := M.bc3 (w := w20) (a := .string a0_0) (b := .int .i64 a0_1) (c := .int .i64 a0_2) zab.out; obtain ⟨zaV, zaW, zaX⟩ := M.bf3 zab) | ((with_reducible refine gate_callee (f := 36) rfl ?_); refine M.goes (some 18) Tryd.func36 #[.string t247] rfl ?_; (with_reducible refine (pleachref02_Open.calls t247 t248 true _ A4.out).mono ?_); rintro e w22 ⟨rfl, hb⟩; refine ⟨_, rfl, ?_⟩; have n0_ := Aside0.mk (blk_below (g := zaa) (o := .cells #[.string t244, .int .i64 t245, .int .i64 t246] 39 (0, 0)) (by (with_reducible repeat (first | refine blk_drewN ?_ _ | refine blk_drew ?_ | refine blk_alloc ?_ _)); refine blk_put (cs := #[.string t244, .int .i64 t245, .int .i64 a0_2]) ?_ 2 _ rfl; (with_reducible repeat (first | refine blk_drewN ?_ _ | refine blk_drew ?_ | refine blk_alloc ?_ _)); refine blk_put (cs := #[.string t244, .int .i64 a0_1, .int .i64 a0_2]) ?_ 1 _ rfl; (with_reducible repeat (first | refine blk_drewN ?_ _ | refine blk_drew ?_ | refine blk_alloc ?_ _)); refine blk_put (cs := #[.string a0_0, .int .i64 a0_1, .int .i64 a0_2]) ?_ 0 _ rfl; (with_reducible repeat (first | refine blk_drewN ?_ _ | refine blk_drew ?_ | refine blk_alloc ?_ _)); exact zab.out) hb); have n1_ := Aside0.mk (blk_below (g := zae) (o := .cells #[.string (⟨#[]⟩ : ByteArray), .int .i64 0, .int .i64 0] 39 (0, 0)) (by (with_reducible repeat (first | refine blk_drewN ?_ _ | refine blk_drew ?_ | refine blk_alloc ?_ _)); refine blk_far ?_ zaj.out _; (with_reducible repeat (first | refine blk_drewN ?_ _ | refine blk_drew ?_ | refine blk_alloc ?_ _)); refine blk_far ?_ zaj.out _; (with_reducible repeat (first | refine blk_drewN ?_ _ | refine blk_drew ?_ | refine blk_alloc ?_ _)); refine blk_far ?_ zaj.out _; (with_reducible repeat (first | refine blk_drewN ?_ _ | refine blk_drew ?_ | refine blk_alloc ?_ _)); exact zaf.out) hb); have n2_ := M.upS HB hb; clear zab zaf HB; have zab := n0_; have zaf := n1_; have HB := n2_; clear n0_ n1_ n2_; (try clear hb); obtain ⟨zaY, zaZ, za0⟩ := M.bc3 (w := w22) (a := .string t244) (b := .int .i64 t245) (c := .int .i64 t246) zab.out; obtain ⟨za1, za2, za3⟩ := M.bf3 zab; obtain ⟨za4, za5, za6⟩ := M.bc3 (w := w22) (a := .string (⟨#[]⟩ : ByteArray)) (b := .int .i64 0) (c := .int .i64 0) zaf.out; obtain ⟨za7, za8, za9⟩ := M.bf3 zaf))
        refine bodyPost_ret (results_ct rfl _ _ zae 39 #[.string t244, .int .i64 t245, .int .i64 t246] (0, 0) _ rfl (by (with_reducible repeat (first | refine blk_drewN ?_ _ | refine blk_drew ?_ | refine blk_alloc ?_ _)); refine blk_put (cs := #[.string t244, .int .i64 t245, .int .i64 0]) ?_ 2 _ rfl; (with_reducible repeat (first | refine blk_drewN ?_ _ | refine blk_drew ?_ | refine blk_alloc ?_ _)); refine blk_put (cs := #[.string t244, .int .i64 0, .int .i64 0]) ?_ 1 _ rfl; (with_reducible repeat (first | refine blk_drewN ?_ _ | refine blk_drew ?_ | refine blk_alloc ?_ _)); refine blk_put (cs := #[.string (⟨#[]⟩ : ByteArray), .int .i64 0, .int .i64 0]) ?_ 0 _ rfl; (with_reducible repeat (first | refine blk_drewN ?_ _ | refine blk_drew ?_ | refine blk_alloc ?_ _)); exact zaf.out) Tryd.underlying39 rfl (by kernel_rfl)) rfl ?_
        exact M.fin (M.up HB)
    · replace c5 := Bool.eq_false_iff.mpr c5
      subst c5
      have H1 : (some (t244, t245, 3, (⟨#[]⟩ : ByteArray))) = some (r1, r2, r3, r4) := by rw [if_neg (show ¬ (false = true) by decide)] at H; exact H
      clear H
      have H := H1
      clear H1
      simp only [Option.some.injEq, Prod.mk.injEq] at H
      obtain ⟨rfl, rfl, rfl, rfl⟩ := H
      go_enter Tryd.func17, Tryd.ntmps17
      go_wp2_with (first | ((with_reducible refine gate_dst (N := 1) rfl ?_); refine box_event ?hg (N := 1) ?hd (cs := #[.string a0_0, .int .i64 a0_1, .int .i64 a0_2]) (t := 39) ?hr ?_; (case hd => rfl); (case hg => rfl); (case hr => first | (go_simp; done) | (go_simp; rfl)); intro zaa hg w25 hbox hb; have n0_ := M.upS HB hb; have n1_ := Aside0.mk (hbox); have n2_ := M.upG HB hg; have n3_ := M.upG HB hg; clear HB; have HB := n0_; have zab := n1_; have zac := n2_; have zad := n3_; clear n0_ n1_ n2_ n3_; clear hb hbox hg) | ((with_reducible refine gate_dst (N := 2) rfl ?_); refine box_event ?hg (N := 2) ?hd (cs := #[.string (⟨#[]⟩ : ByteArray), .int .i64 0, .int .i64 0]) (t := 39) ?hr ?_; (case hd => rfl); (case hg => rfl); (case hr => first | (go_simp; done) | (go_simp; rfl)); intro zae hg w26 hbox hb; have n0_ := M.bkB zab hb; have n1_ := M.upS HB hb; have n2_ := Aside0.mk (hbox); have n3_ := M.upG HB hg; have n4_ := M.upG HB hg; have n5_ := M.bkL zab hg; have n6_ := M.bkG zab hg; clear zab HB; have zab := n0_; have HB := n1_; have zaf := n2_; have zag := n3_; have zah := n4_; have zai := n5_; have zaj := n6_; clear n0_ n1_ n2_ n3_ n4_ n5_ n6_; clear hb hbox hg; have zba := zai.out; have zbb := zaj.out; obtain ⟨zbc, zbd, zbe⟩ := M.bc3 (w := w26) (a := .string a0_0) (b := .int .i64 a0_1) (c := .int .i64 a0_2) zab.out; obtain ⟨zbf, zbg, zbh⟩ := M.bf3 zab) | ((with_reducible refine gate_callee (f := 35) rfl ?_); refine M.goes (some 9) Tryd.func35 #[.agg #[.string a0_0, .int .i64 a0_1, .int .i64 a0_2], .int .i64 65540] rfl ?_; (with_reducible refine (pleachref04_Text.calls a0_0 a0_1 a0_2 65540 t244 t245 t246 t247 _ A2.out).mono ?_); rintro e w29 ⟨rfl, hb⟩; refine ⟨_, rfl, ?_⟩; have n0_ := M.bkB zab hb; have n1_ := M.bkB zaf hb; have n2_ := M.upS HB hb; clear zab zaf HB; have zab := n0_; have zaf := n1_; have HB := n2_; clear n0_ n1_ n2_; (try clear hb); obtain ⟨zbi, zbj, zbk⟩ := M.bc3 (w := w29) (a := .string a0_0) (b := .int .i64 a0_1) (c := .int .i64 a0_2) zab.out; obtain ⟨zbl, zbm, zbn⟩ := M.bf3 zab) | ((with_reducible refine gate_callee (f := 36) rfl ?_); refine M.goes (some 18) Tryd.func36 #[.string t247] rfl ?_; (with_reducible refine (pleachref02_Open.calls t247 t248 false _ A4.out).mono ?_); rintro e w31 ⟨rfl, hb⟩; refine ⟨_, rfl, ?_⟩; have n0_ := Aside0.mk (blk_below (g := zaa) (o := .cells #[.string t244, .int .i64 t245, .int .i64 t246] 39 (0, 0)) (by (with_reducible repeat (first | refine blk_drewN ?_ _ | refine blk_drew ?_ | refine blk_alloc ?_ _)); refine blk_put (cs := #[.string t244, .int .i64 t245, .int .i64 a0_2]) ?_ 2 _ rfl; (with_reducible repeat (first | refine blk_drewN ?_ _ | refine blk_drew ?_ | refine blk_alloc ?_ _)); refine blk_put (cs := #[.string t244, .int .i64 a0_1, .int .i64 a0_2]) ?_ 1 _ rfl; (with_reducible repeat (first | refine blk_drewN ?_ _ | refine blk_drew ?_ | refine blk_alloc ?_ _)); refine blk_put (cs := #[.string a0_0, .int .i64 a0_1, .int .i64 a0_2]) ?_ 0 _ rfl; (with_reducible repeat (first | refine blk_drewN ?_ _ | refine blk_drew ?_ | refine blk_alloc ?_ _)); exact zab.out) hb); have n1_ := Aside0.mk (blk_below (g := zae) (o := .cells #[.string (⟨#[]⟩ : ByteArray), .int .i64 0, .int .i64 0] 39 (0, 0)) (by (with_reducible repeat (first | refine blk_drewN ?_ _ | refine blk_drew ?_ | refine blk_alloc ?_ _)); refine blk_far ?_ zaj.out _; (with_reducible repeat (first | refine blk_drewN ?_ _ | refine blk_drew ?_ | refine blk_alloc ?_ _)); refine blk_far ?_ zaj.out _; (with_reducible repeat (first | refine blk_drewN ?_ _ | refine blk_drew ?_ | refine blk_alloc ?_ _)); refine blk_far ?_ zaj.out _; (with_reducible repeat (first | refine blk_drewN ?_ _ | refine blk_drew ?_ | refine blk_alloc ?_ _)); exact zaf.out) hb); have n2_ := M.upS HB hb; clear zab zaf HB; have zab := n0_; have zaf := n1_; have HB := n2_; clear n0_ n1_ n2_; (try clear hb); obtain ⟨zbo, zbp, zbq⟩ := M.bc3 (w := w31) (a := .string t244) (b := .int .i64 t245) (c := .int .i64 t246) zab.out; obtain ⟨zbr, zbs, zbt⟩ := M.bf3 zab; obtain ⟨zbu, zbv, zbw⟩ := M.bc3 (w := w31) (a := .string (⟨#[]⟩ : ByteArray)) (b := .int .i64 0) (c := .int .i64 0) zaf.out; obtain ⟨zbx, zby, zbz⟩ := M.bf3 zaf))
      refine bodyPost_ret (results_ct rfl _ _ zae 39 #[.string t244, .int .i64 t245, .int .i64 3] (0, 0) _ rfl (by (with_reducible repeat (first | refine blk_drewN ?_ _ | refine blk_drew ?_ | refine blk_alloc ?_ _)); refine blk_put (cs := #[.string t244, .int .i64 t245, .int .i64 0]) ?_ 2 _ rfl; (with_reducible repeat (first | refine blk_drewN ?_ _ | refine blk_drew ?_ | refine blk_alloc ?_ _)); refine blk_put (cs := #[.string t244, .int .i64 0, .int .i64 0]) ?_ 1 _ rfl; (with_reducible repeat (first | refine blk_drewN ?_ _ | refine blk_drew ?_ | refine blk_alloc ?_ _)); refine blk_put (cs := #[.string (⟨#[]⟩ : ByteArray), .int .i64 0, .int .i64 0]) ?_ 0 _ rfl; (with_reducible repeat (first | refine blk_drewN ?_ _ | refine blk_drew ?_ | refine blk_alloc ?_ _)); refine blk_far ?_ zaj.out _; (with_reducible repeat (first | refine blk_drewN ?_ _ | refine blk_drew ?_ | refine blk_alloc ?_ _)); exact zaf.out) Tryd.underlying39 rfl (by kernel_rfl)) rfl ?_
      exact M.fin (M.up HB)
  · rw [if_neg c3] at H
    have c3b0 : (t246 == 0) = false := beq_eq_false_iff_ne.mpr c3
    have c3b1 : (t246 != 0) = true := bne_iff_ne.mpr c3
    simp only [Option.some.injEq, Prod.mk.injEq] at H
    obtain ⟨rfl, rfl, rfl, rfl⟩ := H
    go_enter Tryd.func17, Tryd.ntmps17
    go_wp2_with (first | ((with_reducible refine gate_dst (N := 1) rfl ?_); refine box_event ?hg (N := 1) ?hd (cs := #[.string a0_0, .int .i64 a0_1, .int .i64 a0_2]) (t := 39) ?hr ?_; (case hd => rfl); (case hg => rfl); (case hr => first | (go_simp; done) | (go_simp; rfl)); intro zaa hg w34 hbox hb; have n0_ := M.upS HB hb; have n1_ := Aside0.mk (hbox); have n2_ := M.upG HB hg; have n3_ := M.upG HB hg; clear HB; have HB := n0_; have zab := n1_; have zac := n2_; have zad := n3_; clear n0_ n1_ n2_ n3_; clear hb hbox hg) | ((with_reducible refine gate_dst (N := 2) rfl ?_); refine box_event ?hg (N := 2) ?hd (cs := #[.string (⟨#[]⟩ : ByteArray), .int .i64 0, .int .i64 0]) (t := 39) ?hr ?_; (case hd => rfl); (case hg => rfl); (case hr => first | (go_simp; done) | (go_simp; rfl)); intro zae hg w35 hbox hb; have n0_ := M.bkB zab hb; have n1_ := M.upS HB hb; have n2_ := Aside0.mk (hbox); have n3_ := M.upG HB hg; have n4_ := M.upG HB hg; have n5_ := M.bkL zab hg; have n6_ := M.bkG zab hg; clear zab HB; have zab := n0_; have HB := n1_; have zaf := n2_; have zag := n3_; have zah := n4_; have zai := n5_; have zaj := n6_; clear n0_ n1_ n2_ n3_ n4_ n5_ n6_; clear hb hbox hg; have zbA := zai.out; have zbB := zaj.out; obtain ⟨zbC, zbD, zbE⟩ := M.bc3 (w := w35) (a := .string a0_0) (b := .int .i64 a0_1) (c := .int .i64 a0_2) zab.out; obtain ⟨zbF, zbG, zbH⟩ := M.bf3 zab) | ((with_reducible refine gate_callee (f := 35) rfl ?_); refine M.goes (some 9) Tryd.func35 #[.agg #[.string a0_0, .int .i64 a0_1, .int .i64 a0_2], .int .i64 65540] rfl ?_; (with_reducible refine (pleachref04_Text.calls a0_0 a0_1 a0_2 65540 t244 t245 t246 t247 _ A2.out).mono ?_); rintro e w38 ⟨rfl, hb⟩; refine ⟨_, rfl, ?_⟩; have n0_ := M.bkB zab hb; have n1_ := M.bkB zaf hb; have n2_ := M.upS HB hb; clear zab zaf HB; have zab := n0_; have zaf := n1_; have HB := n2_; clear n0_ n1_ n2_; (try clear hb); obtain ⟨zbI, zbJ, zbK⟩ := M.bc3 (w := w38) (a := .string a0_0) (b := .int .i64 a0_1) (c := .int .i64 a0_2) zab.out; obtain ⟨zbL, zbM, zbN⟩ := M.bf3 zab; obtain ⟨zbO, zbP, zbQ⟩ := M.bc3 (w := w38) (a := .string (⟨#[]⟩ : ByteArray)) (b := .int .i64 0) (c := .int .i64 0) zaf.out; obtain ⟨zbR, zbS, zbT⟩ := M.bf3 zaf))
    refine bodyPost_ret (results_ct rfl _ _ zae 39 #[.string t244, .int .i64 t245, .int .i64 t246] (0, 0) _ rfl (by (with_reducible repeat (first | refine blk_drewN ?_ _ | refine blk_drew ?_ | refine blk_alloc ?_ _)); refine blk_put (cs := #[.string t244, .int .i64 t245, .int .i64 0]) ?_ 2 _ rfl; (with_reducible repeat (first | refine blk_drewN ?_ _ | refine blk_drew ?_ | refine blk_alloc ?_ _)); refine blk_put (cs := #[.string t244, .int .i64 0, .int .i64 0]) ?_ 1 _ rfl; (with_reducible repeat (first | refine blk_drewN ?_ _ | refine blk_drew ?_ | refine blk_alloc ?_ _)); refine blk_put (cs := #[.string (⟨#[]⟩ : ByteArray), .int .i64 0, .int .i64 0]) ?_ 0 _ rfl; (with_reducible repeat (first | refine blk_drewN ?_ _ | refine blk_drew ?_ | refine blk_alloc ?_ _)); refine blk_far ?_ zaj.out _; (with_reducible repeat (first | refine blk_drewN ?_ _ | refine blk_drew ?_ | refine blk_alloc ?_ _)); refine blk_far ?_ zaj.out _; (with_reducible repeat (first | refine blk_drewN ?_ _ | refine blk_drew ?_ | refine blk_alloc ?_ _)); refine blk_far ?_ zaj.out _; (with_reducible repeat (first | refine blk_drewN ?_ _ | refine blk_drew ?_ | refine blk_alloc ?_ _)); exact zaf.out) Tryd.underlying39 rfl (by kernel_rfl)) rfl ?_
    exact M.fin (M.up HB)

-- this session's own plain form
def pleachref14_Read.f (a0_0 : ByteArray) (a0_1 : Int) (a0_2 : Int) : Option (ByteArray × Int × Int × ByteArray) :=
  if M.sok a0_0 a0_1 ∧ a0_0.size ≤ 9223372036854775806 then some (a0_0, (M.fread a0_0 a0_1 a0_2).2.1, (M.fread a0_0 a0_1 a0_2).2.2, (M.fread a0_0 a0_1 a0_2).1) else none
theorem pleachref14_Read.ev (s : ByteArray) (p er : Int) (r : ByteArray × Int × Int × ByteArray) (h : pleachref14_Read.f s p er = some r) : pleachref14_Read_p.f s p er = some r := by
  unfold pleachref14_Read.f at h
  split at h
  case isFalse => cases h
  case isTrue hh =>
    obtain ⟨hs, hz⟩ := hh
    rw [← h]
    unfold pleachref14_Read_p.f pleachref04_Text.f
    rw [if_pos ⟨hs, by decide, hz⟩]
    simp only [Option.bind_some]
    by_cases h0 : (M.xtext s p er 65540).2.2 = 0
    · have hf : M.fread s p er = if (M.copen (M.xtext s p er 65540).1).2 = true ∧ (M.copen (M.xtext s p er 65540).1).1.size ≠ 0 then ((M.copen (M.xtext s p er 65540).1).1, (M.xtext s p er 65540).2.1, 0) else (M.sb [], (M.xtext s p er 65540).2.1, 3) := by
        unfold M.fread; rw [if_pos h0]
      have hsz := (M.xtext_span hs h0).2.2
      unfold pleachref02_Open.f
      rw [if_pos h0, if_pos (by omega), Option.bind_some, hf]
      cases hb : (M.copen (M.xtext s p er 65540).1).2 with
      | false => rfl
      | true =>
        rw [if_pos rfl]
        by_cases hn : (M.copen (M.xtext s p er 65540).1).1.size = 0
        · rw [if_pos ((M.nil_iff _).2 hn), if_neg (fun z => z.2 hn)]; rfl
        · rw [if_neg (fun z => hn ((M.nil_iff _).1 z)), if_pos ⟨rfl, hn⟩, h0]
    · have hf : M.fread s p er = (M.sb [], (M.xtext s p er 65540).2.1, (M.xtext s p er 65540).2.2) := by unfold M.fread; rw [if_neg h0]
      rw [if_neg h0, hf]; rfl
theorem pleachref14_Read.calls (a0_0 : ByteArray) (a0_1 : Int) (a0_2 : Int) (r1 : ByteArray) (r2 : Int) (r3 : Int) (r4 : ByteArray) (w : World) (h : pleachref14_Read.f a0_0 a0_1 a0_2 = some (r1, r2, r3, r4)) :
    Calls Tryd.prog 17 #[.agg #[.string a0_0, .int .i64 a0_1, .int .i64 a0_2]] w fun e w' => e = .returned (.tuple #[.agg #[.string r1, .int .i64 r2, .int .i64 r3], .string r4]) ∧ Below w.heap.size w w' := by
  exact pleachref14_Read_p.calls (w := w) (h := pleachref14_Read.ev _ _ _ _ h)

/-! ### frame_Whole_p: function 21 -/
def frame_Whole_p.l0 : Nat → ByteArray → List ByteArray → Int → Option (List ByteArray × Int)
  | 0, _, _, _ => none
  | k + 1, x0, x4, x5 => if x5 < (x0.size : Int) then (if 0 ≤ x5 then (if x5 ≤ (x0.size : Int) then ((frame_Take.f (x0.extract (x5 : Int).toNat x0.size)).bind fun bt250 => (if bt250.2.2 = 0 then (if x4.length < 8796093022208 then (frame_Whole_p.l0 k x0 (x4 ++ [bt250.1]) (wrap64 (x5 + bt250.2.1))) else (none)) else (some (x4, x5)))) else (none)) else (none)) else (some (x4, x5))
def frame_Whole_p.f (k : Nat) (a0 : ByteArray) : Option (List ByteArray × Int) := frame_Whole_p.l0 k a0 ([] : List ByteArray) 0
theorem frame_Whole_p.mono_l : ∀ k, (∀ y0 y1 y2, LeO (frame_Whole_p.l0 k y0 y1 y2) (frame_Whole_p.l0 (k + 1) y0 y1 y2))
  | 0 => fun _ _ _ r h => by simp [frame_Whole_p.l0] at h
  | k + 1 => by
    have ih0 := frame_Whole_p.mono_l k
    · intro y0 y1 y2
      unfold frame_Whole_p.l0
      repeat' first
      | (with_reducible exact ih0 _ _ _)
      | (with_reducible exact LeO.refl _)
      | (with_reducible exact LeO.none _)
      | (with_reducible refine LeO.ite ?_ ?_)
      | (with_reducible refine LeO.bind ?_ (fun _ => ?_))
      | exact ih0 _ _ _
      | exact LeO.none _
      | refine LeO.ite ?_ ?_
      | refine LeO.bind ?_ (fun _ => ?_)
theorem frame_Whole_p.mono : ∀ a0 k, LeO (frame_Whole_p.f k a0) (frame_Whole_p.f (k + 1) a0) := by
  intro a0 k
  have ih0 := frame_Whole_p.mono_l k
  unfold frame_Whole_p.f
  repeat' first
      | (with_reducible exact ih0 _ _ _)
      | (with_reducible exact LeO.refl _)
      | (with_reducible exact LeO.none _)
      | (with_reducible refine LeO.ite ?_ ?_)
      | (with_reducible refine LeO.bind ?_ (fun _ => ?_))
      | exact ih0 _ _ _
      | exact LeO.none _
      | refine LeO.ite ?_ ?_
      | refine LeO.bind ?_ (fun _ => ?_)
set_option maxHeartbeats 8000000 in
set_option maxRecDepth 100000 in
theorem frame_Whole_p.calls (k : Nat) (a0 : ByteArray) (r1 : List ByteArray) (r2 : Int) (w : World) (h : frame_Whole_p.f k a0 = some (r1, r2)) (hT : M.tab 0 w) :
    Calls Tryd.prog 21 #[.string a0] w fun e w' => ∃ v0_ : Value, e = .returned (.tuple #[v0_, .int .i64 r2]) ∧ Kd.R Kd.string 9 w' w.heap.size (fun _ => True) v0_ r1 ∧ Below w.heap.size w w' := by
  have HT := Aside0.mk hT
  clear hT
  have HB := Aside0.mk (Below.refl w.heap.size w)
  have H : (frame_Whole_p.l0 k a0 ([] : List ByteArray) 0) = some (r1, r2) := h
  clear h
  have H' := Aside0.mk H
  clear H
  go_enter Tryd.func21, Tryd.ntmps21
  go_wp2
  go_loopg [4, 5] k (fun kq v4 v5 w' => ∃ (x4_1 : List ByteArray) (x5_1 : Int), v5 = .int .i64 x5_1 ∧ Aside0 (frame_Whole_p.l0 kq a0 x4_1 x5_1 = some (r1, r2)) ∧ Aside0 (kq ≤ k) ∧ Aside0 (Kd.R Kd.string 9 w' w.heap.size (fun _ => True) v4 x4_1) ∧ Aside0 (Below w.heap.size w w'))
  case atStart => exact ⟨(([] : List ByteArray)), (0), (by first | rfl | (simp; done) | (simp [*]; done) | (simp [M.isEmpty_bne]; done)), H', ⟨Nat.le_refl _⟩, ⟨by first | exact Kd.R_nil _ _ _ _ _ | exact Kd.N_nil _ _ _ _ _ | exact Kd.V_nil _ _ _ _ _ | exact Kd.Q_nil _ _ _ _ _ | exact Kd.S_nil _ _ _ _ _⟩, ⟨M.up HB⟩⟩
  case round =>
    clear H'
    obtain ⟨x4_1, x5_1, rfl, HA, HK1, zbU, HB⟩ := hrel
    cases gk with
    | zero => exact absurd HA.out (by simp [frame_Whole_p.l0])
    | succ k1 =>
      have H := HA.out
      clear HA
      simp only [frame_Whole_p.l0] at H
      by_cases c2 : x5_1 < (a0.size : Int)
      · rw [if_pos c2] at H
        have c2b0 : decide (x5_1 < (a0.size : Int)) = true := decide_eq_true c2
        clear c2
        by_cases c3 : 0 ≤ x5_1
        · rw [if_pos c3] at H
          have c3b0 := eq_true c3
          have c3b1 : decide (0 ≤ x5_1) = true := decide_eq_true c3
          clear c3
          by_cases c4 : x5_1 ≤ (a0.size : Int)
          · rw [if_pos c4] at H
            have c4b0 := eq_true c4
            have c4b1 : decide (x5_1 ≤ (a0.size : Int)) = true := decide_eq_true c4
            clear c4
            replace H := Option.bind_eq_some_iff.mp H
            obtain ⟨⟨t250, t251, t252⟩, A50, H⟩ := H
            replace H : (if t252 = 0 then (if x4_1.length < 8796093022208 then (frame_Whole_p.l0 k1 a0 (x4_1 ++ [t250]) (wrap64 (x5_1 + t251))) else (none)) else (some (x4_1, x5_1))) = some (r1, r2) := H
            have A5 := Aside0.mk A50
            clear A50
            by_cases c6 : t252 = 0
            · rw [if_pos c6] at H
              have c6b0 : (t252 == 0) = true := beq_iff_eq.mpr c6
              have c6b1 : (t252 != 0) = false := bne_eq_false_iff_eq.mpr c6
              clear c6
              by_cases c7 : x4_1.length < 8796093022208
              · rw [if_pos c7] at H
                have LMc7 := Aside0.mk c7
                clear c7
                obtain ⟨y253, hy253⟩ : ∃ y_ : List ByteArray, y_ = (x4_1 ++ [t250]) := ⟨_, rfl⟩
                replace H : (frame_Whole_p.l0 k1 a0 y253 (wrap64 (x5_1 + t251))) = some (r1, r2) := by first | (rw [hy253]; with_reducible exact H) | (have H2_ := (Option.bind_some _ _).symm.trans H; rw [hy253]; with_reducible exact H2_) | (have H2_ := (Option.bind_some _ _).symm.trans H; with_reducible exact H2_) | with_reducible exact H | (rw [hy253]; exact H) | exact H
                have Ny253 := Aside0.mk hy253
                clear hy253
                have H' := Aside0.mk H
                clear H
                go_wp2_with (first | ((with_reducible refine gate_callee (f := 18) rfl ?_); refine M.goes (some 17) Tryd.func18 #[.string (a0.extract (x5_1 : Int).toNat a0.size)] rfl ?_; (with_reducible refine (frame_Take.calls (a0.extract (x5_1 : Int).toNat a0.size) t250 t251 t252 _ A5.out (hT := M.tab_up HT (M.up HB))).mono ?_); rintro e w8 ⟨rfl, hb⟩; refine ⟨_, rfl, ?_⟩; have n0_ := M.roB zbU hb; have n1_ := M.upS HB hb; clear zbU HB; have zbU := n0_; have HB := n1_; clear n0_ n1_; (try clear hb)) | ((with_reducible refine gate_builtin (b := .append) (xs := #[.tmp 23, .tmp 25]) rfl ?_); at_builtin; refine Kd.R_append Kd.string (w0 := w) w.heap.size rfl (.tmp 23) (.tmp 25) 22 9 (.string ⟨#[]⟩) 16 rfl Tryd.underlying22 info9 rfl (by decide) (by omega) u4 x4_1 t250 [.string t250] (fun _ => True) (fun _ => False) rfl rfl ?aP (fun _ hk => hk.elim) ?aF ?aO ?aB ?aS ?aL ?_; (case aP => exact rfl); (case aB => exact (M.up HB)); (case aF => exact (fun _ _ => trivial)); (case aO => exact (M.ro zbU)); (case aS => exact (below_size (M.up HB))); (case aL => have := LMc7.out; omega); intro v254 w9 ho hb hg hat; rw [← Ny253.out] at ho; have n0_ := Aside0.mk (hb); have n1_ := Aside0.mk (ho); clear HB zbU; have HB := n0_; have HO255 := n1_; clear n0_ n1_; clear ho hb hg hat))
                go_roundg k1
                case measure => have := HK1.out; omega
                case rel => exact ⟨(y253), (wrap64 (x5_1 + t251)), (by first | rfl | (simp; done) | (simp [*]; done) | (simp [M.isEmpty_bne]; done)), H', ⟨by have := HK1.out; omega⟩, ⟨by (with_reducible repeat (first | apply Kd.R_alloc | apply Kd.R_drewN | apply Kd.R_drew)); exact HO255.out⟩, ⟨M.up HB⟩⟩
              · rw [if_neg c7] at H
                exact absurd H (by simp)
            · rw [if_neg c6] at H
              have c6b0 : (t252 == 0) = false := beq_eq_false_iff_ne.mpr c6
              have c6b1 : (t252 != 0) = true := bne_iff_ne.mpr c6
              simp only [Option.some.injEq, Prod.mk.injEq] at H
              obtain ⟨rfl, rfl⟩ := H
              go_wp2_with (first | ((with_reducible refine gate_callee (f := 18) rfl ?_); refine M.goes (some 17) Tryd.func18 #[.string (a0.extract (x5_1 : Int).toNat a0.size)] rfl ?_; (with_reducible refine (frame_Take.calls (a0.extract (x5_1 : Int).toNat a0.size) t250 t251 t252 _ A5.out (hT := M.tab_up HT (M.up HB))).mono ?_); rintro e w10 ⟨rfl, hb⟩; refine ⟨_, rfl, ?_⟩; have n0_ := M.roB zbU hb; have n1_ := M.upS HB hb; clear zbU HB; have zbU := n0_; have HB := n1_; clear n0_ n1_; (try clear hb)))
              go_ret2
              exact ⟨_, by first | rfl | (simp [errW_none, errW_some] <;> rfl) | (simp [*, errW_none, errW_some] <;> rfl), by (with_reducible repeat (first | apply Kd.R_alloc | apply Kd.R_drewN | apply Kd.R_drew)); exact zbU.out, M.up HB⟩
          · rw [if_neg c4] at H
            exact absurd H (by simp)
        · rw [if_neg c3] at H
          exact absurd H (by simp)
      · rw [if_neg c2] at H
        have c2b0 : decide (x5_1 < (a0.size : Int)) = false := decide_eq_false c2
        clear c2
        simp only [Option.some.injEq, Prod.mk.injEq] at H
        obtain ⟨rfl, rfl⟩ := H
        go_wp2
        go_ret2
        exact ⟨_, by first | rfl | (simp [errW_none, errW_some] <;> rfl) | (simp [*, errW_none, errW_some] <;> rfl), by (with_reducible repeat (first | apply Kd.R_alloc | apply Kd.R_drewN | apply Kd.R_drew)); exact zbU.out, M.up HB⟩

-- this session's own plain form
def frame_Whole.f (a0 : ByteArray) : Option (List ByteArray × Int) := if a0.size ≤ 1000000000000 then some ((M.fwhole a0).1, ((M.fwhole a0).2 : Int)) else none
theorem frame_Whole.loop (s : ByteArray) (hs : s.size ≤ 1000000000000) (d : Nat) : ∀ (at_ : Nat) (out : List ByteArray), s.size < at_ + d → at_ ≤ s.size → out.length ≤ at_ →
    frame_Whole_p.l0 d s out (at_ : Int) = some (out ++ (M.fwholeF d s at_).1, ((M.fwholeF d s at_).2 : Int)) := by
  induction d with
  | zero => intro at_ out h1 h2; omega
  | succ d ih =>
    intro at_ out h1 h2 h3
    have hz : (s.extract at_ s.size).size = s.size - at_ := by rw [← M.bs_length, M.bs_drop, List.length_drop, M.bs_length]
    unfold frame_Whole_p.l0 frame_Take.f
    rw [M.fwholeF]
    by_cases hlt : at_ < s.size
    · rw [if_pos (by omega), if_pos hlt, if_pos (by omega), if_pos (by omega), Int.toNat_natCast, if_pos (by omega), Option.bind_some]
      by_cases he : (M.ftake (s.extract at_ s.size)).2.2 = 0
      · have hr := M.ftake_range (s.extract at_ s.size) (by omega) he
        rw [hz] at hr
        rw [if_pos he, if_pos he, if_pos (by omega), M.wrap64_id (by omega) (by omega), show (at_ : Int) + (M.ftake (s.extract at_ s.size)).2.1 = ((at_ + (M.ftake (s.extract at_ s.size)).2.1.toNat : Nat) : Int) from by omega]
        rw [ih _ _ (by omega) (by omega) (by rw [List.length_append]; simp; omega)]
        simp
      · rw [if_neg he, if_neg he]; simp
    · rw [if_neg (by omega), if_neg hlt]; simp
theorem frame_Whole.ev (s : ByteArray) (r : List ByteArray × Int) (h : frame_Whole.f s = some r) : ∃ k, frame_Whole_p.f k s = some r := by
  unfold frame_Whole.f at h
  split at h
  case isFalse => cases h
  case isTrue hh =>
    refine ⟨s.size + 1, ?_⟩
    rw [← h]
    have := frame_Whole.loop s hh (s.size + 1) 0 [] (by omega) (by omega) (by simp)
    rw [List.nil_append] at this
    exact this
theorem frame_Whole.calls (a0 : ByteArray) (r1 : List ByteArray) (r2 : Int) (w : World) (h : frame_Whole.f a0 = some (r1, r2)) (hT : M.tab 0 w) :
    Calls Tryd.prog 21 #[.string a0] w fun e w' => ∃ v0_ : Value, e = .returned (.tuple #[v0_, .int .i64 r2]) ∧ Kd.R Kd.string 9 w' w.heap.size (fun _ => True) v0_ r1 ∧ Below w.heap.size w w' := by
  have HT := Aside0.mk hT
  clear hT
  obtain ⟨k, hk⟩ := frame_Whole.ev _ _ h
  exact frame_Whole_p.calls (hT := HT.out) (k := k) (w := w) (h := hk)

/-! ### pleachref14_Whole_p: function 22 -/
def pleachref14_Whole_p.l0 : Nat → ByteArray → List ByteArray → Int → Option (List ByteArray × Int)
  | 0, _, _, _ => none
  | k + 1, x0, x4, x5 => if x5 < (x0.size : Int) then (if 0 ≤ x5 then (if x5 ≤ (x0.size : Int) then ((pleachref14_Read.f (x0.extract (x5 : Int).toNat x0.size) 0 0).bind fun bt256 => (if bt256.2.2.1 = 0 then (if x4.length < 8796093022208 then (pleachref14_Whole_p.l0 k x0 (x4 ++ [bt256.2.2.2]) (wrap64 (x5 + bt256.2.1))) else (none)) else (some (x4, x5)))) else (none)) else (none)) else (some (x4, x5))
def pleachref14_Whole_p.f (k : Nat) (a0 : ByteArray) : Option (List ByteArray × Int) := pleachref14_Whole_p.l0 k a0 ([] : List ByteArray) 0
theorem pleachref14_Whole_p.mono_l : ∀ k, (∀ y0 y1 y2, LeO (pleachref14_Whole_p.l0 k y0 y1 y2) (pleachref14_Whole_p.l0 (k + 1) y0 y1 y2))
  | 0 => fun _ _ _ r h => by simp [pleachref14_Whole_p.l0] at h
  | k + 1 => by
    have ih0 := pleachref14_Whole_p.mono_l k
    · intro y0 y1 y2
      unfold pleachref14_Whole_p.l0
      repeat' first
      | (with_reducible exact ih0 _ _ _)
      | (with_reducible exact LeO.refl _)
      | (with_reducible exact LeO.none _)
      | (with_reducible refine LeO.ite ?_ ?_)
      | (with_reducible refine LeO.bind ?_ (fun _ => ?_))
      | exact ih0 _ _ _
      | exact LeO.none _
      | refine LeO.ite ?_ ?_
      | refine LeO.bind ?_ (fun _ => ?_)
theorem pleachref14_Whole_p.mono : ∀ a0 k, LeO (pleachref14_Whole_p.f k a0) (pleachref14_Whole_p.f (k + 1) a0) := by
  intro a0 k
  have ih0 := pleachref14_Whole_p.mono_l k
  unfold pleachref14_Whole_p.f
  repeat' first
      | (with_reducible exact ih0 _ _ _)
      | (with_reducible exact LeO.refl _)
      | (with_reducible exact LeO.none _)
      | (with_reducible refine LeO.ite ?_ ?_)
      | (with_reducible refine LeO.bind ?_ (fun _ => ?_))
      | exact ih0 _ _ _
      | exact LeO.none _
      | refine LeO.ite ?_ ?_
      | refine LeO.bind ?_ (fun _ => ?_)
set_option maxHeartbeats 8000000 in
set_option maxRecDepth 100000 in
theorem pleachref14_Whole_p.calls (k : Nat) (a0 : ByteArray) (r1 : List ByteArray) (r2 : Int) (w : World) (h : pleachref14_Whole_p.f k a0 = some (r1, r2)) :
    Calls Tryd.prog 22 #[.string a0] w fun e w' => ∃ v0_ : Value, e = .returned (.tuple #[v0_, .int .i64 r2]) ∧ Kd.R Kd.string 9 w' w.heap.size (fun _ => True) v0_ r1 ∧ Below w.heap.size w w' := by
  have hu39 := Tryd.underlying39
  have HB := Aside0.mk (Below.refl w.heap.size w)
  have H : (pleachref14_Whole_p.l0 k a0 ([] : List ByteArray) 0) = some (r1, r2) := h
  clear h
  have H' := Aside0.mk H
  clear H
  go_enter Tryd.func22, Tryd.ntmps22
  go_wp2
  go_loopg [4, 5] k (fun kq v4 v5 w' => ∃ (x4_1 : List ByteArray) (x5_1 : Int), v5 = .int .i64 x5_1 ∧ Aside0 (pleachref14_Whole_p.l0 kq a0 x4_1 x5_1 = some (r1, r2)) ∧ Aside0 (kq ≤ k) ∧ Aside0 (Kd.R Kd.string 9 w' w.heap.size (fun _ => True) v4 x4_1) ∧ Aside0 (Below w.heap.size w w'))
  case atStart => exact ⟨(([] : List ByteArray)), (0), (by first | rfl | (simp; done) | (simp [*]; done) | (simp [M.isEmpty_bne]; done)), H', ⟨Nat.le_refl _⟩, ⟨by first | exact Kd.R_nil _ _ _ _ _ | exact Kd.N_nil _ _ _ _ _ | exact Kd.V_nil _ _ _ _ _ | exact Kd.Q_nil _ _ _ _ _ | exact Kd.S_nil _ _ _ _ _⟩, ⟨M.up HB⟩⟩
  case round =>
    clear H'
    obtain ⟨x4_1, x5_1, rfl, HA, HK1, zbU, HB⟩ := hrel
    cases gk with
    | zero => exact absurd HA.out (by simp [pleachref14_Whole_p.l0])
    | succ k1 =>
      have H := HA.out
      clear HA
      simp only [pleachref14_Whole_p.l0] at H
      by_cases c2 : x5_1 < (a0.size : Int)
      · rw [if_pos c2] at H
        have c2b0 : decide (x5_1 < (a0.size : Int)) = true := decide_eq_true c2
        clear c2
        by_cases c3 : 0 ≤ x5_1
        · rw [if_pos c3] at H
          have c3b0 := eq_true c3
          have c3b1 : decide (0 ≤ x5_1) = true := decide_eq_true c3
          clear c3
          by_cases c4 : x5_1 ≤ (a0.size : Int)
          · rw [if_pos c4] at H
            have c4b0 := eq_true c4
            have c4b1 : decide (x5_1 ≤ (a0.size : Int)) = true := decide_eq_true c4
            clear c4
            replace H := Option.bind_eq_some_iff.mp H
            obtain ⟨⟨t256, t257, t258, t259⟩, A50, H⟩ := H
            replace H : (if t258 = 0 then (if x4_1.length < 8796093022208 then (pleachref14_Whole_p.l0 k1 a0 (x4_1 ++ [t259]) (wrap64 (x5_1 + t257))) else (none)) else (some (x4_1, x5_1))) = some (r1, r2) := H
            have A5 := Aside0.mk A50
            clear A50
            by_cases c6 : t258 = 0
            · rw [if_pos c6] at H
              have c6b0 : (t258 == 0) = true := beq_iff_eq.mpr c6
              have c6b1 : (t258 != 0) = false := bne_eq_false_iff_eq.mpr c6
              clear c6
              by_cases c7 : x4_1.length < 8796093022208
              · rw [if_pos c7] at H
                have LMc7 := Aside0.mk c7
                clear c7
                obtain ⟨y261, hy261⟩ : ∃ y_ : List ByteArray, y_ = (x4_1 ++ [t259]) := ⟨_, rfl⟩
                replace H : (pleachref14_Whole_p.l0 k1 a0 y261 (wrap64 (x5_1 + t257))) = some (r1, r2) := by first | (rw [hy261]; with_reducible exact H) | (have H2_ := (Option.bind_some _ _).symm.trans H; rw [hy261]; with_reducible exact H2_) | (have H2_ := (Option.bind_some _ _).symm.trans H; with_reducible exact H2_) | with_reducible exact H | (rw [hy261]; exact H) | exact H
                have Ny261 := Aside0.mk hy261
                clear hy261
                have H' := Aside0.mk H
                clear H
                go_wp2_with (first | ((with_reducible refine gate_callee (f := 17) rfl ?_); refine M.goes (some 17) Tryd.func17 #[.agg #[.string (a0.extract (x5_1 : Int).toNat a0.size), .int .i64 0, .int .i64 0]] rfl ?_; (with_reducible refine (pleachref14_Read.calls (a0.extract (x5_1 : Int).toNat a0.size) 0 0 t256 t257 t258 t259 _ A5.out).mono ?_); rintro e w8 ⟨rfl, hb⟩; refine ⟨_, rfl, ?_⟩; have n0_ := M.roB zbU hb; have n1_ := M.upS HB hb; clear zbU HB; have zbU := n0_; have HB := n1_; clear n0_ n1_; (try clear hb)) | ((with_reducible refine gate_dst (N := 6) rfl ?_); refine box_event ?hg (N := 6) ?hd (cs := #[.string (⟨#[]⟩ : ByteArray), .int .i64 0, .int .i64 0]) (t := 39) ?hr ?_; (case hd => rfl); (case hg => rfl); (case hr => first | (go_simp; done) | (go_simp; rfl)); intro zbV hg w9 hbox hb; have n0_ := M.roB zbU hb; have n1_ := M.upS HB hb; have n2_ := Aside0.mk (hbox); have n3_ := M.upG HB hg; have n4_ := M.upG HB hg; clear zbU HB; have zbU := n0_; have HB := n1_; have zbW := n2_; have zbX := n3_; have zbY := n4_; clear n0_ n1_ n2_ n3_ n4_; clear hb hbox hg; obtain ⟨zam, zan, zao⟩ := M.bc3 (w := w9) (a := .string (⟨#[]⟩ : ByteArray)) (b := .int .i64 0) (c := .int .i64 0) zbW.out; obtain ⟨zap, zaq, zar⟩ := M.bf3 zbW) | ((with_reducible refine gate_builtin (b := .append) (xs := #[.tmp 25, .tmp 27]) rfl ?_); at_builtin; refine Kd.R_append Kd.string (w0 := w) w.heap.size rfl (.tmp 25) (.tmp 27) 22 9 (.string ⟨#[]⟩) 16 rfl Tryd.underlying22 info9 rfl (by decide) (by omega) u4 x4_1 t259 [.string t259] (fun _ => True) (fun _ => False) rfl (by first | (go_simp; done) | (go_simp; rfl)) ?aP (fun _ hk => hk.elim) ?aF ?aO ?aB ?aS ?aL ?_; (case aP => exact rfl); (case aB => exact (M.up HB)); (case aF => exact (fun _ _ => trivial)); (case aO => exact (by (with_reducible repeat (first | apply Kd.R_alloc | apply Kd.R_drewN | apply Kd.R_drew)); exact Kd.R_mono (Kd.R_far (p := ⟨zbV, 2, none⟩) (Kd.R_far (p := ⟨zbV, 1, none⟩) (Kd.R_far (p := ⟨zbV, 0, none⟩) (Kd.R_types zbU.out zbW.out (by decide)) (fun _ hk => hk.2) (.string t256)) (fun _ hk => hk.2) (.int .i64 t257)) (fun _ hk => hk.2) (.int .i64 t258)) (fun _ hk => trivial))); (case aS => exact (below_size (M.up HB))); (case aL => have := LMc7.out; omega); intro v262 w11 ho hb hg hat; rw [← Ny261.out] at ho; have n0_ := Aside0.mk (blk_grown (g := zbV) (o := .cells #[.string t256, .int .i64 t257, .int .i64 t258] 39 (0, 0)) (by (with_reducible repeat (first | refine blk_drewN ?_ _ | refine blk_drew ?_ | refine blk_alloc ?_ _)); refine blk_put (cs := #[.string t256, .int .i64 t257, .int .i64 0]) ?_ 2 _ rfl; (with_reducible repeat (first | refine blk_drewN ?_ _ | refine blk_drew ?_ | refine blk_alloc ?_ _)); refine blk_put (cs := #[.string t256, .int .i64 0, .int .i64 0]) ?_ 1 _ rfl; (with_reducible repeat (first | refine blk_drewN ?_ _ | refine blk_drew ?_ | refine blk_alloc ?_ _)); refine blk_put (cs := #[.string (⟨#[]⟩ : ByteArray), .int .i64 0, .int .i64 0]) ?_ 0 _ rfl; (with_reducible repeat (first | refine blk_drewN ?_ _ | refine blk_drew ?_ | refine blk_alloc ?_ _)); exact zbW.out) hg (Kd.R_ne zbU.out zbW.out (by decide))); have n1_ := Aside0.mk (hb); have n2_ := Aside0.mk (ho); clear zbW HB zbU; have zbW := n0_; have HB := n1_; have HO263 := n2_; clear n0_ n1_ n2_; clear ho hb hg hat; obtain ⟨zas, zat, zau⟩ := M.bc3 (w := w11) (a := .string t256) (b := .int .i64 t257) (c := .int .i64 t258) zbW.out; obtain ⟨zav, zaw, zax⟩ := M.bf3 zbW))
                go_roundg k1
                case measure => have := HK1.out; omega
                case rel => exact ⟨(y261), (wrap64 (x5_1 + t257)), (by first | rfl | (simp; done) | (simp [*]; done) | (simp [M.isEmpty_bne]; done)), H', ⟨by have := HK1.out; omega⟩, ⟨by (with_reducible repeat (first | apply Kd.R_alloc | apply Kd.R_drewN | apply Kd.R_drew)); exact HO263.out⟩, ⟨M.up HB⟩⟩
              · rw [if_neg c7] at H
                exact absurd H (by simp)
            · rw [if_neg c6] at H
              have c6b0 : (t258 == 0) = false := beq_eq_false_iff_ne.mpr c6
              have c6b1 : (t258 != 0) = true := bne_iff_ne.mpr c6
              simp only [Option.some.injEq, Prod.mk.injEq] at H
              obtain ⟨rfl, rfl⟩ := H
              go_wp2_with (first | ((with_reducible refine gate_callee (f := 17) rfl ?_); refine M.goes (some 17) Tryd.func17 #[.agg #[.string (a0.extract (x5_1 : Int).toNat a0.size), .int .i64 0, .int .i64 0]] rfl ?_; (with_reducible refine (pleachref14_Read.calls (a0.extract (x5_1 : Int).toNat a0.size) 0 0 t256 t257 t258 t259 _ A5.out).mono ?_); rintro e w13 ⟨rfl, hb⟩; refine ⟨_, rfl, ?_⟩; have n0_ := M.roB zbU hb; have n1_ := M.upS HB hb; clear zbU HB; have zbU := n0_; have HB := n1_; clear n0_ n1_; (try clear hb)) | ((with_reducible refine gate_dst (N := 6) rfl ?_); refine box_event ?hg (N := 6) ?hd (cs := #[.string (⟨#[]⟩ : ByteArray), .int .i64 0, .int .i64 0]) (t := 39) ?hr ?_; (case hd => rfl); (case hg => rfl); (case hr => first | (go_simp; done) | (go_simp; rfl)); intro zbV hg w14 hbox hb; have n0_ := M.roB zbU hb; have n1_ := M.upS HB hb; have n2_ := Aside0.mk (hbox); have n3_ := M.upG HB hg; have n4_ := M.upG HB hg; clear zbU HB; have zbU := n0_; have HB := n1_; have zbW := n2_; have zbX := n3_; have zbY := n4_; clear n0_ n1_ n2_ n3_ n4_; clear hb hbox hg; obtain ⟨zaE, zaF, zaG⟩ := M.bc3 (w := w14) (a := .string (⟨#[]⟩ : ByteArray)) (b := .int .i64 0) (c := .int .i64 0) zbW.out; obtain ⟨zaH, zaI, zaJ⟩ := M.bf3 zbW))
              go_ret2
              exact ⟨_, by first | rfl | (simp [errW_none, errW_some] <;> rfl) | (simp [*, errW_none, errW_some] <;> rfl), by (with_reducible repeat (first | apply Kd.R_alloc | apply Kd.R_drewN | apply Kd.R_drew)); exact Kd.R_mono (Kd.R_far (p := ⟨zbV, 2, none⟩) (Kd.R_far (p := ⟨zbV, 1, none⟩) (Kd.R_far (p := ⟨zbV, 0, none⟩) (Kd.R_types zbU.out zbW.out (by decide)) (fun _ hk => hk.2) (.string t256)) (fun _ hk => hk.2) (.int .i64 t257)) (fun _ hk => hk.2) (.int .i64 t258)) (fun _ hk => trivial), M.up HB⟩
          · rw [if_neg c4] at H
            exact absurd H (by simp)
        · rw [if_neg c3] at H
          exact absurd H (by simp)
      · rw [if_neg c2] at H
        have c2b0 : decide (x5_1 < (a0.size : Int)) = false := decide_eq_false c2
        clear c2
        simp only [Option.some.injEq, Prod.mk.injEq] at H
        obtain ⟨rfl, rfl⟩ := H
        go_wp2
        go_ret2
        exact ⟨_, by first | rfl | (simp [errW_none, errW_some] <;> rfl) | (simp [*, errW_none, errW_some] <;> rfl), by (with_reducible repeat (first | apply Kd.R_alloc | apply Kd.R_drewN | apply Kd.R_drew)); exact zbU.out, M.up HB⟩

-- this session's own plain form
def pleachref14_Whole.f (a0 : ByteArray) : Option (List ByteArray × Int) := if a0.size ≤ 1000000000000 then some ((M.fwhole a0).1, ((M.fwhole a0).2 : Int)) else none
theorem pleachref14_Whole.loop (s : ByteArray) (hs : s.size ≤ 1000000000000) (d : Nat) : ∀ (at_ : Nat) (out : List ByteArray), s.size < at_ + d → at_ ≤ s.size → out.length ≤ at_ →
    pleachref14_Whole_p.l0 d s out (at_ : Int) = some (out ++ (M.fwholeF d s at_).1, ((M.fwholeF d s at_).2 : Int)) := by
  induction d with
  | zero => intro at_ out h1 h2; omega
  | succ d ih =>
    intro at_ out h1 h2 h3
    have hz : (s.extract at_ s.size).size = s.size - at_ := by rw [← M.bs_length, M.bs_drop, List.length_drop, M.bs_length]
    unfold pleachref14_Whole_p.l0 pleachref14_Read.f
    rw [M.fwholeF]
    by_cases hlt : at_ < s.size
    · rw [if_pos (by omega), if_pos hlt, if_pos (by omega), if_pos (by omega), Int.toNat_natCast, if_pos ⟨⟨by decide, by omega, by omega⟩, by omega⟩, Option.bind_some]
      simp only
      by_cases he : (M.fread (s.extract at_ s.size) 0 0).2.2 = 0
      · have ht : M.ftake (s.extract at_ s.size) = ((M.fread (s.extract at_ s.size) 0 0).1, (M.fread (s.extract at_ s.size) 0 0).2.1, 0) := by unfold M.ftake; rw [if_pos he]
        have hr := M.ftake_range (s.extract at_ s.size) (by omega) (by rw [ht])
        rw [hz, ht] at hr
        simp only at hr
        rw [if_pos he, ht, if_pos (by omega), M.wrap64_id (by omega) (by omega), show (at_ : Int) + (M.fread (s.extract at_ s.size) 0 0).2.1 = ((at_ + (M.fread (s.extract at_ s.size) 0 0).2.1.toNat : Nat) : Int) from by omega]
        simp only
        rw [if_pos trivial, ih _ _ (by omega) (by omega) (by rw [List.length_append]; simp; omega)]
        simp
      · have ht : M.ftake (s.extract at_ s.size) = (M.sb [], 0, 3) := by unfold M.ftake; rw [if_neg he]
        rw [if_neg he, ht]
        simp
    · rw [if_neg (by omega), if_neg hlt]; simp
theorem pleachref14_Whole.ev (s : ByteArray) (r : List ByteArray × Int) (h : pleachref14_Whole.f s = some r) : ∃ k, pleachref14_Whole_p.f k s = some r := by
  unfold pleachref14_Whole.f at h
  split at h
  case isFalse => cases h
  case isTrue hh =>
    refine ⟨s.size + 1, ?_⟩
    rw [← h]
    have := pleachref14_Whole.loop s hh (s.size + 1) 0 [] (by omega) (by omega) (by simp)
    rw [List.nil_append] at this
    exact this
theorem pleachref14_Whole.calls (a0 : ByteArray) (r1 : List ByteArray) (r2 : Int) (w : World) (h : pleachref14_Whole.f a0 = some (r1, r2)) :
    Calls Tryd.prog 22 #[.string a0] w fun e w' => ∃ v0_ : Value, e = .returned (.tuple #[v0_, .int .i64 r2]) ∧ Kd.R Kd.string 9 w' w.heap.size (fun _ => True) v0_ r1 ∧ Below w.heap.size w w' := by
  obtain ⟨k, hk⟩ := pleachref14_Whole.ev _ _ h
  exact pleachref14_Whole_p.calls (k := k) (w := w) (h := hk)

end Go.Proofs.YtacjpkfpniolmaaDoor.EFrameTakes
