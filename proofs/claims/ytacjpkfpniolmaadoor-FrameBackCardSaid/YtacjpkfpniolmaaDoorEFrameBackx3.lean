-- Written by this session's own program (wip/tools/ext.py) for this claim; Lean checks it.
import Derived.Test.YtacjpkfpniolmaaDoorEFrameBackx0
import Derived.Test.YtacjpkfpniolmaaDoorEFrameBackx1
import Derived.Test.YtacjpkfpniolmaaDoorEFrameBackx2
namespace Go.Proofs.YtacjpkfpniolmaaDoor.EFrameBack
open Go.RowKit Go.Proofs.YtacjpkfpniolmaaDoorW.PrintWords Go.Proofs.YtacjpkfpniolmaaDoorW.PrintLast Go.Proofs.YtacjpkfpniolmaaDoorW.PrintMore
attribute [local go_sem] M.run_leq M.run_gtr M.run_geq max2_int min2_int max_two min_two max_three min_three max_four min_four   -- for this text's walks alone
set_option linter.unusedVariables false
set_option linter.unusedSimpArgs false

/-! ### crc_Open_p: function 33 -/
def crc_Open_p.f (a0 : ByteArray) : Option (ByteArray × Bool) := if (a0.size : Int) < 4 then (some ((⟨#[]⟩ : ByteArray), false)) else (if 0 ≤ (wrap64 ((a0.size : Int) - 4)) then (if (wrap64 ((a0.size : Int) - 4)) ≤ (a0.size : Int) then ((crc_Of.f (([a0.extract 0 ((wrap64 ((a0.size : Int) - 4)) : Int).toNat] : List ByteArray))).bind fun t143 => ((crc_tail.f t143).bind fun t144 => (if t144.toList = (a0.extract ((wrap64 ((a0.size : Int) - 4)) : Int).toNat a0.size).toList then (some (a0.extract 0 ((wrap64 ((a0.size : Int) - 4)) : Int).toNat, true)) else (some ((⟨#[]⟩ : ByteArray), false))))) else (none)) else (none))
set_option maxHeartbeats 8000000 in
set_option maxRecDepth 100000 in
theorem crc_Open_p.calls (a0 : ByteArray) (r1 : ByteArray) (r2 : Bool) (w : World) (h : crc_Open_p.f a0 = some (r1, r2)) (hT : M.tab 0 w) :
    Calls Tryd.prog 33 #[.string a0] w fun e w' => e = .returned (.tuple #[.string r1, .bool r2]) ∧ Below w.heap.size w w' := by
  have HT := Aside0.mk hT
  clear hT
  have HB := Aside0.mk (Below.refl w.heap.size w)
  have H : (if (a0.size : Int) < 4 then (some ((⟨#[]⟩ : ByteArray), false)) else (if 0 ≤ (wrap64 ((a0.size : Int) - 4)) then (if (wrap64 ((a0.size : Int) - 4)) ≤ (a0.size : Int) then ((crc_Of.f (([a0.extract 0 ((wrap64 ((a0.size : Int) - 4)) : Int).toNat] : List ByteArray))).bind fun t143 => ((crc_tail.f t143).bind fun t144 => (if t144.toList = (a0.extract ((wrap64 ((a0.size : Int) - 4)) : Int).toNat a0.size).toList then (some (a0.extract 0 ((wrap64 ((a0.size : Int) - 4)) : Int).toNat, true)) else (some ((⟨#[]⟩ : ByteArray), false))))) else (none)) else (none))) = some (r1, r2) := h
  clear h
  by_cases c2 : (a0.size : Int) < 4
  · rw [if_pos c2] at H
    have c2b0 : decide ((a0.size : Int) < 4) = true := decide_eq_true c2
    have c2b1 : decide (a0.size < 4) = true := decide_eq_true (by omega)
    clear c2
    simp only [Option.some.injEq, Prod.mk.injEq] at H
    obtain ⟨rfl, rfl⟩ := H
    go_enter Tryd.func33, Tryd.ntmps33
    go_wp2
    repeat (go_quiet (fail); try go_wp2)
    go_ret2
    exact M.fin (M.up HB)
  · rw [if_neg c2] at H
    have c2b0 : decide ((a0.size : Int) < 4) = false := decide_eq_false c2
    have c2b1 : decide (a0.size < 4) = false := decide_eq_false (by omega)
    clear c2
    obtain ⟨ji3, hji3⟩ : ∃ j_ : Int, (wrap64 ((a0.size : Int) - 4)) = j_ := ⟨_, rfl⟩
    replace H : (if 0 ≤ (ji3) then (if (ji3) ≤ (a0.size : Int) then ((crc_Of.f (([a0.extract 0 ((ji3) : Int).toNat] : List ByteArray))).bind fun t143 => ((crc_tail.f t143).bind fun t144 => (if t144.toList = (a0.extract ((ji3) : Int).toNat a0.size).toList then (some (a0.extract 0 ((ji3) : Int).toNat, true)) else (some ((⟨#[]⟩ : ByteArray), false))))) else (none)) else (none)) = some (r1, r2) := by first | (rw [hji3] at H; exact H) | (simp only [hji3] at H ⊢; exact H)
    have hji3w : (IntKind.i64.wrap ((a0.size : Int) - 4)) = ji3 := (i64_w _).trans hji3
    by_cases c4 : 0 ≤ (ji3)
    · rw [if_pos c4] at H
      have c4b0 := eq_true c4
      have c4b1 : decide (0 ≤ (ji3)) = true := decide_eq_true c4
      clear c4
      by_cases c5 : (ji3) ≤ (a0.size : Int)
      · rw [if_pos c5] at H
        have c5b0 := eq_true c5
        have c5b1 : decide ((ji3) ≤ (a0.size : Int)) = true := decide_eq_true c5
        clear c5
        have c6b0 := eq_true (of_decide_eq_true (by first | (with_reducible assumption) | assumption) : 0 ≤ (ji3))
        have c7b0 := eq_true (of_decide_eq_true (by first | (with_reducible assumption) | assumption) : (ji3) ≤ (a0.size : Int))
        obtain ⟨y140, hy140⟩ : ∃ y_ : List ByteArray, y_ = (([a0.extract 0 ((ji3) : Int).toNat] : List ByteArray)) := ⟨_, rfl⟩
        replace H : ((crc_Of.f y140).bind fun t143 => ((crc_tail.f t143).bind fun t144 => (if t144.toList = (a0.extract ((ji3) : Int).toNat a0.size).toList then (some (a0.extract 0 ((ji3) : Int).toNat, true)) else (some ((⟨#[]⟩ : ByteArray), false))))) = some (r1, r2) := by first | (rw [hy140]; with_reducible exact H) | (have H2_ := (Option.bind_some _ _).symm.trans H; rw [hy140]; with_reducible exact H2_) | (have H2_ := (Option.bind_some _ _).symm.trans H; with_reducible exact H2_) | with_reducible exact H | (rw [hy140]; exact H) | exact H
        have Ny140 := Aside0.mk hy140
        clear hy140
        replace H := Option.bind_eq_some_iff.mp H
        obtain ⟨t143, A80, H⟩ := H
        replace H : ((crc_tail.f t143).bind fun t144 => (if t144.toList = (a0.extract ((ji3) : Int).toNat a0.size).toList then (some (a0.extract 0 ((ji3) : Int).toNat, true)) else (some ((⟨#[]⟩ : ByteArray), false)))) = some (r1, r2) := H
        have A8 := Aside0.mk A80
        clear A80
        replace H := Option.bind_eq_some_iff.mp H
        obtain ⟨t144, A90, H⟩ := H
        replace H : (if t144.toList = (a0.extract ((ji3) : Int).toNat a0.size).toList then (some (a0.extract 0 ((ji3) : Int).toNat, true)) else (some ((⟨#[]⟩ : ByteArray), false))) = some (r1, r2) := H
        have A9 := Aside0.mk A90
        clear A90
        by_cases c10 : t144.toList = (a0.extract ((ji3) : Int).toNat a0.size).toList
        · rw [if_pos c10] at H
          have c10b0 : (t144.toList == (a0.extract ((ji3) : Int).toNat a0.size).toList) = true := beq_iff_eq.mpr c10
          have c10b1 : (t144.toList != (a0.extract ((ji3) : Int).toNat a0.size).toList) = false := bne_eq_false_iff_eq.mpr c10
          clear c10
          simp only [Option.some.injEq, Prod.mk.injEq] at H
          obtain ⟨rfl, rfl⟩ := H
          go_enter Tryd.func33, Tryd.ntmps33
          go_wp2_with (first | ((with_reducible refine gate_dst (N := 20) rfl ?_); refine Kd.R_lit Kd.string _ 9 ?hg (N := 20) ?hd (xs := ([a0.extract 0 ((ji3) : Int).toNat] : List ByteArray)) (inner := [.string (a0.extract 0 ((ji3) : Int).toNat)]) (ok := fun _ => True) (okp := fun _ => True) ?hr ?hp (fun _ hk => hk) trivial (Below.refl _ _) (Nat.le_refl _) (by simp) ?_; (case hd => rfl); (case hg => rfl); (case hr => first | (go_simp; done) | (go_simp; rfl)); (case hp => exact (Reps.one (show Kd.M Kd.string _ _ _ (a0.extract 0 ((ji3) : Int).toNat) [.string (a0.extract 0 ((ji3) : Int).toNat)] from rfl) (Reps.none _ _))); intro v141 w11 ho12 hb hg_ hnew_; clear hg_ hnew_; (first | rw [← Ny140.out] at ho12 | (simp only [Int.reduceToNat] at ho12; rw [← Ny140.out] at ho12)); have n0_ := Aside0.mk (Kd.R_lower ho12 (below_size (M.up HB))); have n1_ := M.upS HB hb; clear HB; have HO142 := n0_; have HB := n1_; clear n0_ n1_; clear hb ho12; obtain ⟨Ao13, co13, eo13⟩ := Kd.R_slice HO142.out; subst eo13) | (go_at_call 41; (with_reducible refine (crc_Of.calls _ _ y140 t143 _ ?side1 ?side2 A8.out (hT := M.tab_up HT (M.up HB))).mono ?_); (case side1 => repeat (first | exact (Kd.R_reads' HO142.out).2.2 | (with_reducible refine Kd.C_alloc ?_ _) | (with_reducible refine Kd.C_drewN ?_ _) | (with_reducible refine Kd.C_drew ?_))); (case side2 => exact (Kd.R_reads' HO142.out).2.1); rintro e w14 ⟨rfl, hb⟩; have n0_ := M.roB HO142 hb; have n1_ := M.upS HB hb; clear HO142 HB; have HO142 := n0_; have HB := n1_; clear n0_ n1_; (try clear hb); (try clear hb2); (try clear hk); (try clear hi)) | (go_at_call 40; (with_reducible refine (crc_tail.calls t143 t144 _ A9.out).mono ?_); rintro e w15 ⟨rfl, hb⟩; have n0_ := M.roB HO142 hb; have n1_ := M.upS HB hb; clear HO142 HB; have HO142 := n0_; have HB := n1_; clear n0_ n1_; (try clear hb); (try clear hb2); (try clear hk); (try clear hi)))
          repeat (go_quiet (first | ((with_reducible refine gate_dst (N := 20) rfl ?_); refine Kd.R_lit Kd.string _ 9 ?hg (N := 20) ?hd (xs := ([a0.extract 0 ((ji3) : Int).toNat] : List ByteArray)) (inner := [.string (a0.extract 0 ((ji3) : Int).toNat)]) (ok := fun _ => True) (okp := fun _ => True) ?hr ?hp (fun _ hk => hk) trivial (Below.refl _ _) (Nat.le_refl _) (by simp) ?_; (case hd => rfl); (case hg => rfl); (case hr => first | (go_simp; done) | (go_simp; rfl)); (case hp => exact (Reps.one (show Kd.M Kd.string _ _ _ (a0.extract 0 ((ji3) : Int).toNat) [.string (a0.extract 0 ((ji3) : Int).toNat)] from rfl) (Reps.none _ _))); intro v141 w11 ho12 hb hg_ hnew_; clear hg_ hnew_; (first | rw [← Ny140.out] at ho12 | (simp only [Int.reduceToNat] at ho12; rw [← Ny140.out] at ho12)); have n0_ := Aside0.mk (Kd.R_lower ho12 (below_size (M.up HB))); have n1_ := M.upS HB hb; clear HB; have HO142 := n0_; have HB := n1_; clear n0_ n1_; clear hb ho12; obtain ⟨Ao13, co13, eo13⟩ := Kd.R_slice HO142.out; subst eo13) | (go_at_call 41; (with_reducible refine (crc_Of.calls _ _ y140 t143 _ ?side1 ?side2 A8.out (hT := M.tab_up HT (M.up HB))).mono ?_); (case side1 => repeat (first | exact (Kd.R_reads' HO142.out).2.2 | (with_reducible refine Kd.C_alloc ?_ _) | (with_reducible refine Kd.C_drewN ?_ _) | (with_reducible refine Kd.C_drew ?_))); (case side2 => exact (Kd.R_reads' HO142.out).2.1); rintro e w14 ⟨rfl, hb⟩; have n0_ := M.roB HO142 hb; have n1_ := M.upS HB hb; clear HO142 HB; have HO142 := n0_; have HB := n1_; clear n0_ n1_; (try clear hb); (try clear hb2); (try clear hk); (try clear hi)) | (go_at_call 40; (with_reducible refine (crc_tail.calls t143 t144 _ A9.out).mono ?_); rintro e w15 ⟨rfl, hb⟩; have n0_ := M.roB HO142 hb; have n1_ := M.upS HB hb; clear HO142 HB; have HO142 := n0_; have HB := n1_; clear n0_ n1_; (try clear hb); (try clear hb2); (try clear hk); (try clear hi))); try go_wp2_with (first | ((with_reducible refine gate_dst (N := 20) rfl ?_); refine Kd.R_lit Kd.string _ 9 ?hg (N := 20) ?hd (xs := ([a0.extract 0 ((ji3) : Int).toNat] : List ByteArray)) (inner := [.string (a0.extract 0 ((ji3) : Int).toNat)]) (ok := fun _ => True) (okp := fun _ => True) ?hr ?hp (fun _ hk => hk) trivial (Below.refl _ _) (Nat.le_refl _) (by simp) ?_; (case hd => rfl); (case hg => rfl); (case hr => first | (go_simp; done) | (go_simp; rfl)); (case hp => exact (Reps.one (show Kd.M Kd.string _ _ _ (a0.extract 0 ((ji3) : Int).toNat) [.string (a0.extract 0 ((ji3) : Int).toNat)] from rfl) (Reps.none _ _))); intro v141 w11 ho12 hb hg_ hnew_; clear hg_ hnew_; (first | rw [← Ny140.out] at ho12 | (simp only [Int.reduceToNat] at ho12; rw [← Ny140.out] at ho12)); have n0_ := Aside0.mk (Kd.R_lower ho12 (below_size (M.up HB))); have n1_ := M.upS HB hb; clear HB; have HO142 := n0_; have HB := n1_; clear n0_ n1_; clear hb ho12; obtain ⟨Ao13, co13, eo13⟩ := Kd.R_slice HO142.out; subst eo13) | (go_at_call 41; (with_reducible refine (crc_Of.calls _ _ y140 t143 _ ?side1 ?side2 A8.out (hT := M.tab_up HT (M.up HB))).mono ?_); (case side1 => repeat (first | exact (Kd.R_reads' HO142.out).2.2 | (with_reducible refine Kd.C_alloc ?_ _) | (with_reducible refine Kd.C_drewN ?_ _) | (with_reducible refine Kd.C_drew ?_))); (case side2 => exact (Kd.R_reads' HO142.out).2.1); rintro e w14 ⟨rfl, hb⟩; have n0_ := M.roB HO142 hb; have n1_ := M.upS HB hb; clear HO142 HB; have HO142 := n0_; have HB := n1_; clear n0_ n1_; (try clear hb); (try clear hb2); (try clear hk); (try clear hi)) | (go_at_call 40; (with_reducible refine (crc_tail.calls t143 t144 _ A9.out).mono ?_); rintro e w15 ⟨rfl, hb⟩; have n0_ := M.roB HO142 hb; have n1_ := M.upS HB hb; clear HO142 HB; have HO142 := n0_; have HB := n1_; clear n0_ n1_; (try clear hb); (try clear hb2); (try clear hk); (try clear hi))))
          go_ret2
          exact ⟨by first | rfl | (simp [errW_none, errW_some] <;> rfl) | (simp only [← hji3]; first | rfl | (simp [errW_none, errW_some] <;> rfl)) | (simp [*, errW_none, errW_some] <;> rfl), M.up HB⟩
        · rw [if_neg c10] at H
          have c10b0 : (t144.toList == (a0.extract ((ji3) : Int).toNat a0.size).toList) = false := beq_eq_false_iff_ne.mpr c10
          have c10b1 : (t144.toList != (a0.extract ((ji3) : Int).toNat a0.size).toList) = true := bne_iff_ne.mpr c10
          simp only [Option.some.injEq, Prod.mk.injEq] at H
          obtain ⟨rfl, rfl⟩ := H
          go_enter Tryd.func33, Tryd.ntmps33
          go_wp2_with (first | ((with_reducible refine gate_dst (N := 20) rfl ?_); refine Kd.R_lit Kd.string _ 9 ?hg (N := 20) ?hd (xs := ([a0.extract 0 ((ji3) : Int).toNat] : List ByteArray)) (inner := [.string (a0.extract 0 ((ji3) : Int).toNat)]) (ok := fun _ => True) (okp := fun _ => True) ?hr ?hp (fun _ hk => hk) trivial (Below.refl _ _) (Nat.le_refl _) (by simp) ?_; (case hd => rfl); (case hg => rfl); (case hr => first | (go_simp; done) | (go_simp; rfl)); (case hp => exact (Reps.one (show Kd.M Kd.string _ _ _ (a0.extract 0 ((ji3) : Int).toNat) [.string (a0.extract 0 ((ji3) : Int).toNat)] from rfl) (Reps.none _ _))); intro v141 w16 ho17 hb hg_ hnew_; clear hg_ hnew_; (first | rw [← Ny140.out] at ho17 | (simp only [Int.reduceToNat] at ho17; rw [← Ny140.out] at ho17)); have n0_ := Aside0.mk (Kd.R_lower ho17 (below_size (M.up HB))); have n1_ := M.upS HB hb; clear HB; have HO142 := n0_; have HB := n1_; clear n0_ n1_; clear hb ho17; obtain ⟨Ao18, co18, eo18⟩ := Kd.R_slice HO142.out; subst eo18) | (go_at_call 41; (with_reducible refine (crc_Of.calls _ _ y140 t143 _ ?side1 ?side2 A8.out (hT := M.tab_up HT (M.up HB))).mono ?_); (case side1 => repeat (first | exact (Kd.R_reads' HO142.out).2.2 | (with_reducible refine Kd.C_alloc ?_ _) | (with_reducible refine Kd.C_drewN ?_ _) | (with_reducible refine Kd.C_drew ?_))); (case side2 => exact (Kd.R_reads' HO142.out).2.1); rintro e w19 ⟨rfl, hb⟩; have n0_ := M.roB HO142 hb; have n1_ := M.upS HB hb; clear HO142 HB; have HO142 := n0_; have HB := n1_; clear n0_ n1_; (try clear hb); (try clear hb2); (try clear hk); (try clear hi)) | (go_at_call 40; (with_reducible refine (crc_tail.calls t143 t144 _ A9.out).mono ?_); rintro e w20 ⟨rfl, hb⟩; have n0_ := M.roB HO142 hb; have n1_ := M.upS HB hb; clear HO142 HB; have HO142 := n0_; have HB := n1_; clear n0_ n1_; (try clear hb); (try clear hb2); (try clear hk); (try clear hi)))
          repeat (go_quiet (first | ((with_reducible refine gate_dst (N := 20) rfl ?_); refine Kd.R_lit Kd.string _ 9 ?hg (N := 20) ?hd (xs := ([a0.extract 0 ((ji3) : Int).toNat] : List ByteArray)) (inner := [.string (a0.extract 0 ((ji3) : Int).toNat)]) (ok := fun _ => True) (okp := fun _ => True) ?hr ?hp (fun _ hk => hk) trivial (Below.refl _ _) (Nat.le_refl _) (by simp) ?_; (case hd => rfl); (case hg => rfl); (case hr => first | (go_simp; done) | (go_simp; rfl)); (case hp => exact (Reps.one (show Kd.M Kd.string _ _ _ (a0.extract 0 ((ji3) : Int).toNat) [.string (a0.extract 0 ((ji3) : Int).toNat)] from rfl) (Reps.none _ _))); intro v141 w16 ho17 hb hg_ hnew_; clear hg_ hnew_; (first | rw [← Ny140.out] at ho17 | (simp only [Int.reduceToNat] at ho17; rw [← Ny140.out] at ho17)); have n0_ := Aside0.mk (Kd.R_lower ho17 (below_size (M.up HB))); have n1_ := M.upS HB hb; clear HB; have HO142 := n0_; have HB := n1_; clear n0_ n1_; clear hb ho17; obtain ⟨Ao18, co18, eo18⟩ := Kd.R_slice HO142.out; subst eo18) | (go_at_call 41; (with_reducible refine (crc_Of.calls _ _ y140 t143 _ ?side1 ?side2 A8.out (hT := M.tab_up HT (M.up HB))).mono ?_); (case side1 => repeat (first | exact (Kd.R_reads' HO142.out).2.2 | (with_reducible refine Kd.C_alloc ?_ _) | (with_reducible refine Kd.C_drewN ?_ _) | (with_reducible refine Kd.C_drew ?_))); (case side2 => exact (Kd.R_reads' HO142.out).2.1); rintro e w19 ⟨rfl, hb⟩; have n0_ := M.roB HO142 hb; have n1_ := M.upS HB hb; clear HO142 HB; have HO142 := n0_; have HB := n1_; clear n0_ n1_; (try clear hb); (try clear hb2); (try clear hk); (try clear hi)) | (go_at_call 40; (with_reducible refine (crc_tail.calls t143 t144 _ A9.out).mono ?_); rintro e w20 ⟨rfl, hb⟩; have n0_ := M.roB HO142 hb; have n1_ := M.upS HB hb; clear HO142 HB; have HO142 := n0_; have HB := n1_; clear n0_ n1_; (try clear hb); (try clear hb2); (try clear hk); (try clear hi))); try go_wp2_with (first | ((with_reducible refine gate_dst (N := 20) rfl ?_); refine Kd.R_lit Kd.string _ 9 ?hg (N := 20) ?hd (xs := ([a0.extract 0 ((ji3) : Int).toNat] : List ByteArray)) (inner := [.string (a0.extract 0 ((ji3) : Int).toNat)]) (ok := fun _ => True) (okp := fun _ => True) ?hr ?hp (fun _ hk => hk) trivial (Below.refl _ _) (Nat.le_refl _) (by simp) ?_; (case hd => rfl); (case hg => rfl); (case hr => first | (go_simp; done) | (go_simp; rfl)); (case hp => exact (Reps.one (show Kd.M Kd.string _ _ _ (a0.extract 0 ((ji3) : Int).toNat) [.string (a0.extract 0 ((ji3) : Int).toNat)] from rfl) (Reps.none _ _))); intro v141 w16 ho17 hb hg_ hnew_; clear hg_ hnew_; (first | rw [← Ny140.out] at ho17 | (simp only [Int.reduceToNat] at ho17; rw [← Ny140.out] at ho17)); have n0_ := Aside0.mk (Kd.R_lower ho17 (below_size (M.up HB))); have n1_ := M.upS HB hb; clear HB; have HO142 := n0_; have HB := n1_; clear n0_ n1_; clear hb ho17; obtain ⟨Ao18, co18, eo18⟩ := Kd.R_slice HO142.out; subst eo18) | (go_at_call 41; (with_reducible refine (crc_Of.calls _ _ y140 t143 _ ?side1 ?side2 A8.out (hT := M.tab_up HT (M.up HB))).mono ?_); (case side1 => repeat (first | exact (Kd.R_reads' HO142.out).2.2 | (with_reducible refine Kd.C_alloc ?_ _) | (with_reducible refine Kd.C_drewN ?_ _) | (with_reducible refine Kd.C_drew ?_))); (case side2 => exact (Kd.R_reads' HO142.out).2.1); rintro e w19 ⟨rfl, hb⟩; have n0_ := M.roB HO142 hb; have n1_ := M.upS HB hb; clear HO142 HB; have HO142 := n0_; have HB := n1_; clear n0_ n1_; (try clear hb); (try clear hb2); (try clear hk); (try clear hi)) | (go_at_call 40; (with_reducible refine (crc_tail.calls t143 t144 _ A9.out).mono ?_); rintro e w20 ⟨rfl, hb⟩; have n0_ := M.roB HO142 hb; have n1_ := M.upS HB hb; clear HO142 HB; have HO142 := n0_; have HB := n1_; clear n0_ n1_; (try clear hb); (try clear hb2); (try clear hk); (try clear hi))))
          go_ret2
          exact ⟨by first | rfl | (simp [errW_none, errW_some] <;> rfl) | (simp only [← hji3]; first | rfl | (simp [errW_none, errW_some] <;> rfl)) | (simp [*, errW_none, errW_some] <;> rfl), M.up HB⟩
      · rw [if_neg c5] at H
        exact absurd H (by simp)
    · rw [if_neg c4] at H
      exact absurd H (by simp)

-- this session's own plain form
def crc_Open.f (a0 : ByteArray) : Option (ByteArray × Bool) := if a0.size ≤ 9223372036854775806 then some (M.copen a0) else none
theorem crc_Open.ev (a0 : ByteArray) (r : ByteArray × Bool) (h : crc_Open.f a0 = some r) : crc_Open_p.f a0 = some r := by
  unfold crc_Open.f at h
  split at h
  case isFalse => cases h
  case isTrue hh =>
    rw [← h]
    unfold crc_Open_p.f M.copen
    by_cases h4 : a0.size < 4
    · rw [if_pos (by omega), if_pos h4]; rfl
    · rw [if_neg (by omega), if_neg h4, M.wrap64_id (by omega) (by omega), if_pos (by omega), if_pos (by omega)]
      have e : ((a0.size : Int) - 4).toNat = a0.size - 4 := by omega
      have hz : (a0.extract 0 (a0.size - 4)).size ≤ 9223372036854775806 := by rw [← M.bs_length, M.bs_take, List.length_take]; have := M.bs_length a0; omega
      unfold crc_Of.f crc_tail.f
      rw [e, if_pos ⟨by intro s hs; rw [List.mem_singleton.1 hs]; exact hz, by simp⟩, Option.bind_some, Option.bind_some, M.tail_nums, M.toList_bs, M.toList_bs, M.bs_sb, M.bs_drop]
      show (if M.ctail (M.con 0 (M.bs (a0.extract 0 (a0.size - 4)))) = (M.bs a0).drop (a0.size - 4) then _ else _) = _
      rw [M.bs_take]
      split <;> rfl
theorem crc_Open.calls (a0 : ByteArray) (r1 : ByteArray) (r2 : Bool) (w : World) (h : crc_Open.f a0 = some (r1, r2)) (hT : M.tab 0 w) :
    Calls Tryd.prog 33 #[.string a0] w fun e w' => e = .returned (.tuple #[.string r1, .bool r2]) ∧ Below w.heap.size w w' := by
  have HT := Aside0.mk hT
  clear hT
  exact crc_Open_p.calls (hT := HT.out) (w := w) (h := crc_Open.ev _ _ h)

/-! ### scan_Scan_Fail: function 34 -/
def scan_Scan_Fail.f (s0_0 : ByteArray) (s0_1 : Int) (s0_2 : Int) (s0_3 : Bool) (a1 : Int) : Option (ByteArray × Int × Int × Bool) := if a1 = 0 then (some (s0_0, s0_1, s0_2, s0_3)) else ((scan_Scan_fail.f s0_0 s0_1 s0_2 s0_3 a1).bind fun bt145 => (some (bt145.1, bt145.2.1, bt145.2.2.1, bt145.2.2.2)))
set_option maxHeartbeats 8000000 in
set_option maxRecDepth 100000 in
theorem scan_Scan_Fail.calls (g : Nat) (s0_0 : ByteArray) (s0_1 : Int) (s0_2 : Int) (s0_3 : Bool) (a1 : Int) (r1 : ByteArray) (r2 : Int) (r3 : Int) (r4 : Bool) (w0 w : World) (hI : IsS59 w0 w g s0_0 s0_1 s0_2 s0_3) (hB : Below w0.heap.size w0 w) (h : scan_Scan_Fail.f s0_0 s0_1 s0_2 s0_3 a1 = some (r1, r2, r3, r4)) :
    Calls Tryd.prog 34 #[.pointer (some ⟨g, 0, none⟩), .int .i64 a1] w fun e w' => e = .returned (.tuple #[]) ∧ IsS59 w0 w' g r1 r2 r3 r4 ∧ Below w0.heap.size w0 w' ∧ KeepBut w w' g none := by
  have HI0 := Aside0.mk hI
  have HK := Aside0.mk (KeepBut.refl w g none)
  have HL := Aside0.mk hB.size
  clear hI
  have HW0 := Aside0.mk hB.size
  have HB := Aside0.mk hB
  clear hB
  have H : (if a1 = 0 then (some (s0_0, s0_1, s0_2, s0_3)) else ((scan_Scan_fail.f s0_0 s0_1 s0_2 s0_3 a1).bind fun bt145 => (some (bt145.1, bt145.2.1, bt145.2.2.1, bt145.2.2.2)))) = some (r1, r2, r3, r4) := h
  clear h
  by_cases c3 : a1 = 0
  · rw [if_pos c3] at H
    have c3b0 : (a1 == 0) = true := beq_iff_eq.mpr c3
    have c3b1 : (a1 != 0) = false := bne_eq_false_iff_eq.mpr c3
    clear c3
    simp only [Option.some.injEq, Prod.mk.injEq] at H
    obtain ⟨rfl, rfl, rfl, rfl⟩ := H
    go_enter Tryd.func34, Tryd.ntmps34
    go_wp2
    first | go_end0 | ((try simp only [Exit.inBlock, Exit.then]); refine bodyPost_ret (results_none rfl _ _ _) rfl ?_)
    exact ⟨by first | rfl | (simp [errW_none, errW_some] <;> rfl) | (simp [*, errW_none, errW_some] <;> rfl), by repeat (first | (with_reducible first | exact HI0.out | apply IsS59.alloc | apply IsS59.drewN | apply IsS59.drew | apply IsS59.set_0 | apply IsS59.set_1 | apply IsS59.set_2 | apply IsS59.set_3) | exact HI0.out), by repeat (first | (with_reducible first | exact HB.out | apply below_alloc | apply pw_below_drewN | apply below_drew1 | refine below_set ?_ (IsS59.ge HI0.out)) | exact HB.out), by repeat (first | (with_reducible first | exact HK.out | apply KeepBut.set_ | apply keep_drewN | apply keep_drew | apply keep_alloc) | exact HK.out)⟩
  · rw [if_neg c3] at H
    have c3b0 : (a1 == 0) = false := beq_eq_false_iff_ne.mpr c3
    have c3b1 : (a1 != 0) = true := bne_iff_ne.mpr c3
    replace H := Option.bind_eq_some_iff.mp H
    obtain ⟨⟨t145, t146, t147, t148⟩, A40, H⟩ := H
    replace H : (some (t145, t146, t147, t148)) = some (r1, r2, r3, r4) := H
    have A4 := Aside0.mk A40
    clear A40
    simp only [Option.some.injEq, Prod.mk.injEq] at H
    obtain ⟨rfl, rfl, rfl, rfl⟩ := H
    go_enter Tryd.func34, Tryd.ntmps34
    go_wp2_with (first | ((with_reducible refine gate_callee (f := 44) rfl ?_); refine M.goes (some 12) Tryd.func44 #[.pointer (some ⟨g, 0, none⟩), .int .i64 a1] rfl ?_; (with_reducible refine (scan_Scan_fail.calls g s0_0 s0_1 s0_2 s0_3 a1 t145 t146 t147 t148 w0 _ ?side1 ?side2 A4.out).mono ?_); (case side1 => repeat (first | (with_reducible first | exact HI0.out | apply IsS59.alloc | apply IsS59.drewN | apply IsS59.drew | apply IsS59.set_0 | apply IsS59.set_1 | apply IsS59.set_2 | apply IsS59.set_3) | exact HI0.out)); (case side2 => repeat (first | (with_reducible first | exact HB.out | apply below_alloc | apply pw_below_drewN | apply below_drew1 | refine below_set ?_ (IsS59.ge HI0.out)) | exact HB.out)); rintro e w5 ⟨rfl, hi, hb, hk⟩; refine ⟨_, rfl, ?_⟩; have n0_ := Aside0.mk (KeepBut.trans (by repeat (first | (with_reducible first | exact HK.out | apply KeepBut.set_ | apply keep_drewN | apply keep_drew | apply keep_alloc) | exact HK.out)) hk (.inl rfl)); have n1_ := Aside0.mk (hb); have n2_ := Aside0.mk (hi); clear HK HB HI0; have HK := n0_; have HB := n1_; have HI0 := n2_; clear n0_ n1_ n2_; (try clear hb); (try clear hk); (try clear hi)))
    first | go_end0 | ((try simp only [Exit.inBlock, Exit.then]); refine bodyPost_ret (results_none rfl _ _ _) rfl ?_)
    exact ⟨by first | rfl | (simp [errW_none, errW_some] <;> rfl) | (simp [*, errW_none, errW_some] <;> rfl), by repeat (first | (with_reducible first | exact HI0.out | apply IsS59.alloc | apply IsS59.drewN | apply IsS59.drew | apply IsS59.set_0 | apply IsS59.set_1 | apply IsS59.set_2 | apply IsS59.set_3) | exact HI0.out), by repeat (first | (with_reducible first | exact HB.out | apply below_alloc | apply pw_below_drewN | apply below_drew1 | refine below_set ?_ (IsS59.ge HI0.out)) | exact HB.out), by repeat (first | (with_reducible first | exact HK.out | apply KeepBut.set_ | apply keep_drewN | apply keep_drew | apply keep_alloc) | exact HK.out)⟩

/-! ### frame_Read_p: function 16 -/
def frame_Read_p.f (s0_0 : ByteArray) (s0_1 : Int) (s0_2 : Int) (s0_3 : Bool) : Option (ByteArray × ByteArray × Int × Int × Bool) := (scan_Scan_Text.f s0_0 s0_1 s0_2 s0_3 65540).bind fun bt149 => ((scan_Scan_Err.f bt149.2.1 bt149.2.2.1 bt149.2.2.2.1 bt149.2.2.2.2).bind fun bt154 => (if bt154.1 = 0 then ((crc_Open.f bt149.1).bind fun bt159 => (if bt159.2 = true then (if bt159.1.toList = ([] : List UInt8) then ((scan_Scan_Fail.f bt154.2.1 bt154.2.2.1 bt154.2.2.2.1 bt154.2.2.2.2 3).bind fun bt161 => (some ((⟨#[]⟩ : ByteArray), bt161.1, bt161.2.1, bt161.2.2.1, bt161.2.2.2))) else (some (bt159.1, bt154.2.1, bt154.2.2.1, bt154.2.2.2.1, bt154.2.2.2.2))) else ((scan_Scan_Fail.f bt154.2.1 bt154.2.2.1 bt154.2.2.2.1 bt154.2.2.2.2 3).bind fun bt165 => (some ((⟨#[]⟩ : ByteArray), bt165.1, bt165.2.1, bt165.2.2.1, bt165.2.2.2))))) else (some ((⟨#[]⟩ : ByteArray), bt154.2.1, bt154.2.2.1, bt154.2.2.2.1, bt154.2.2.2.2))))
set_option maxHeartbeats 8000000 in
set_option maxRecDepth 100000 in
theorem frame_Read_p.calls (g : Nat) (s0_0 : ByteArray) (s0_1 : Int) (s0_2 : Int) (s0_3 : Bool) (r1 : ByteArray) (r2 : ByteArray) (r3 : Int) (r4 : Int) (r5 : Bool) (w0 w : World) (hI : IsS59 w0 w g s0_0 s0_1 s0_2 s0_3) (hB : Below w0.heap.size w0 w) (h : frame_Read_p.f s0_0 s0_1 s0_2 s0_3 = some (r1, r2, r3, r4, r5)) (hT : M.tab 0 w0) :
    Calls Tryd.prog 16 #[.pointer (some ⟨g, 0, none⟩)] w fun e w' => e = .returned (.string r1) ∧ IsS59 w0 w' g r2 r3 r4 r5 ∧ Below w0.heap.size w0 w' ∧ KeepBut w w' g none := by
  have HT := Aside0.mk hT
  clear hT
  have HI0 := Aside0.mk hI
  have HK := Aside0.mk (KeepBut.refl w g none)
  have HL := Aside0.mk hB.size
  clear hI
  have HW0 := Aside0.mk hB.size
  have HB := Aside0.mk hB
  clear hB
  have H : ((scan_Scan_Text.f s0_0 s0_1 s0_2 s0_3 65540).bind fun bt149 => ((scan_Scan_Err.f bt149.2.1 bt149.2.2.1 bt149.2.2.2.1 bt149.2.2.2.2).bind fun bt154 => (if bt154.1 = 0 then ((crc_Open.f bt149.1).bind fun bt159 => (if bt159.2 = true then (if bt159.1.toList = ([] : List UInt8) then ((scan_Scan_Fail.f bt154.2.1 bt154.2.2.1 bt154.2.2.2.1 bt154.2.2.2.2 3).bind fun bt161 => (some ((⟨#[]⟩ : ByteArray), bt161.1, bt161.2.1, bt161.2.2.1, bt161.2.2.2))) else (some (bt159.1, bt154.2.1, bt154.2.2.1, bt154.2.2.2.1, bt154.2.2.2.2))) else ((scan_Scan_Fail.f bt154.2.1 bt154.2.2.1 bt154.2.2.2.1 bt154.2.2.2.2 3).bind fun bt165 => (some ((⟨#[]⟩ : ByteArray), bt165.1, bt165.2.1, bt165.2.2.1, bt165.2.2.2))))) else (some ((⟨#[]⟩ : ByteArray), bt154.2.1, bt154.2.2.1, bt154.2.2.2.1, bt154.2.2.2.2))))) = some (r1, r2, r3, r4, r5) := h
  clear h
  replace H := Option.bind_eq_some_iff.mp H
  obtain ⟨⟨t149, t150, t151, t152, t153⟩, A20, H⟩ := H
  replace H : ((scan_Scan_Err.f t150 t151 t152 t153).bind fun bt154 => (if bt154.1 = 0 then ((crc_Open.f t149).bind fun bt159 => (if bt159.2 = true then (if bt159.1.toList = ([] : List UInt8) then ((scan_Scan_Fail.f bt154.2.1 bt154.2.2.1 bt154.2.2.2.1 bt154.2.2.2.2 3).bind fun bt161 => (some ((⟨#[]⟩ : ByteArray), bt161.1, bt161.2.1, bt161.2.2.1, bt161.2.2.2))) else (some (bt159.1, bt154.2.1, bt154.2.2.1, bt154.2.2.2.1, bt154.2.2.2.2))) else ((scan_Scan_Fail.f bt154.2.1 bt154.2.2.1 bt154.2.2.2.1 bt154.2.2.2.2 3).bind fun bt165 => (some ((⟨#[]⟩ : ByteArray), bt165.1, bt165.2.1, bt165.2.2.1, bt165.2.2.2))))) else (some ((⟨#[]⟩ : ByteArray), bt154.2.1, bt154.2.2.1, bt154.2.2.2.1, bt154.2.2.2.2)))) = some (r1, r2, r3, r4, r5) := H
  have A2 := Aside0.mk A20
  clear A20
  replace H := Option.bind_eq_some_iff.mp H
  obtain ⟨⟨t154, t155, t156, t157, t158⟩, A30, H⟩ := H
  replace H : (if t154 = 0 then ((crc_Open.f t149).bind fun bt159 => (if bt159.2 = true then (if bt159.1.toList = ([] : List UInt8) then ((scan_Scan_Fail.f t155 t156 t157 t158 3).bind fun bt161 => (some ((⟨#[]⟩ : ByteArray), bt161.1, bt161.2.1, bt161.2.2.1, bt161.2.2.2))) else (some (bt159.1, t155, t156, t157, t158))) else ((scan_Scan_Fail.f t155 t156 t157 t158 3).bind fun bt165 => (some ((⟨#[]⟩ : ByteArray), bt165.1, bt165.2.1, bt165.2.2.1, bt165.2.2.2))))) else (some ((⟨#[]⟩ : ByteArray), t155, t156, t157, t158))) = some (r1, r2, r3, r4, r5) := H
  have A3 := Aside0.mk A30
  clear A30
  by_cases c4 : t154 = 0
  · rw [if_pos c4] at H
    have c4b0 : (t154 == 0) = true := beq_iff_eq.mpr c4
    have c4b1 : (t154 != 0) = false := bne_eq_false_iff_eq.mpr c4
    clear c4
    replace H := Option.bind_eq_some_iff.mp H
    obtain ⟨⟨t159, t160⟩, A50, H⟩ := H
    replace H : (if t160 = true then (if t159.toList = ([] : List UInt8) then ((scan_Scan_Fail.f t155 t156 t157 t158 3).bind fun bt161 => (some ((⟨#[]⟩ : ByteArray), bt161.1, bt161.2.1, bt161.2.2.1, bt161.2.2.2))) else (some (t159, t155, t156, t157, t158))) else ((scan_Scan_Fail.f t155 t156 t157 t158 3).bind fun bt165 => (some ((⟨#[]⟩ : ByteArray), bt165.1, bt165.2.1, bt165.2.2.1, bt165.2.2.2)))) = some (r1, r2, r3, r4, r5) := H
    have A5 := Aside0.mk A50
    clear A50
    by_cases c6 : t160 = true
    · subst c6
      have H1 : (if t159.toList = ([] : List UInt8) then ((scan_Scan_Fail.f t155 t156 t157 t158 3).bind fun bt161 => (some ((⟨#[]⟩ : ByteArray), bt161.1, bt161.2.1, bt161.2.2.1, bt161.2.2.2))) else (some (t159, t155, t156, t157, t158))) = some (r1, r2, r3, r4, r5) := by rw [if_pos rfl] at H; exact H
      clear H
      have H := H1
      clear H1
      by_cases c7 : t159.toList = ([] : List UInt8)
      · rw [if_pos c7] at H
        have c7b0 : (t159.toList == ([] : List UInt8)) = true := beq_iff_eq.mpr c7
        have c7b1 : (t159.toList != ([] : List UInt8)) = false := bne_eq_false_iff_eq.mpr c7
        clear c7
        replace H := Option.bind_eq_some_iff.mp H
        obtain ⟨⟨t161, t162, t163, t164⟩, A80, H⟩ := H
        replace H : (some ((⟨#[]⟩ : ByteArray), t161, t162, t163, t164)) = some (r1, r2, r3, r4, r5) := H
        have A8 := Aside0.mk A80
        clear A80
        simp only [Option.some.injEq, Prod.mk.injEq] at H
        obtain ⟨rfl, rfl, rfl, rfl, rfl⟩ := H
        go_enter Tryd.func16, Tryd.ntmps16
        go_wp2_with (first | ((with_reducible refine gate_callee (f := 32) rfl ?_); refine M.goes (some 7) Tryd.func32 #[.pointer (some ⟨g, 0, none⟩), .int .i64 65540] rfl ?_; (with_reducible refine (scan_Scan_Text.calls g s0_0 s0_1 s0_2 s0_3 65540 t149 t150 t151 t152 t153 w0 _ ?side1 ?side2 A2.out).mono ?_); (case side1 => repeat (first | (with_reducible first | exact HI0.out | apply IsS59.alloc | apply IsS59.drewN | apply IsS59.drew | apply IsS59.set_0 | apply IsS59.set_1 | apply IsS59.set_2 | apply IsS59.set_3) | exact HI0.out)); (case side2 => repeat (first | (with_reducible first | exact HB.out | apply below_alloc | apply pw_below_drewN | apply below_drew1 | refine below_set ?_ (IsS59.ge HI0.out)) | exact HB.out)); rintro e w9 ⟨rfl, hi, hb, hk⟩; refine ⟨_, rfl, ?_⟩; have n0_ := Aside0.mk (KeepBut.trans (by repeat (first | (with_reducible first | exact HK.out | apply KeepBut.set_ | apply keep_drewN | apply keep_drew | apply keep_alloc) | exact HK.out)) hk (.inl rfl)); have n1_ := Aside0.mk (hb); have n2_ := Aside0.mk (hi); clear HK HB HI0; have HK := n0_; have HB := n1_; have HI0 := n2_; clear n0_ n1_ n2_; (try clear hb); (try clear hk); (try clear hi)) | ((with_reducible refine gate_callee (f := 19) rfl ?_); refine M.goes (some 9) Tryd.func19 #[.pointer (some ⟨g, 0, none⟩)] rfl ?_; (with_reducible refine (scan_Scan_Err.calls g t150 t151 t152 t153 t154 t155 t156 t157 t158 w0 _ ?side1 ?side2 A3.out).mono ?_); (case side1 => repeat (first | (with_reducible first | exact HI0.out | apply IsS59.alloc | apply IsS59.drewN | apply IsS59.drew | apply IsS59.set_0 | apply IsS59.set_1 | apply IsS59.set_2 | apply IsS59.set_3) | exact HI0.out)); (case side2 => repeat (first | (with_reducible first | exact HB.out | apply below_alloc | apply pw_below_drewN | apply below_drew1 | refine below_set ?_ (IsS59.ge HI0.out)) | exact HB.out)); rintro e w10 ⟨rfl, hi, hb, hk⟩; refine ⟨_, rfl, ?_⟩; have n0_ := Aside0.mk (KeepBut.trans (by repeat (first | (with_reducible first | exact HK.out | apply KeepBut.set_ | apply keep_drewN | apply keep_drew | apply keep_alloc) | exact HK.out)) hk (.inl rfl)); have n1_ := Aside0.mk (hb); have n2_ := Aside0.mk (hi); clear HK HB HI0; have HK := n0_; have HB := n1_; have HI0 := n2_; clear n0_ n1_ n2_; (try clear hb); (try clear hk); (try clear hi)) | ((with_reducible refine gate_callee (f := 33) rfl ?_); refine M.goes (some 13) Tryd.func33 #[.string t149] rfl ?_; (with_reducible refine (crc_Open.calls t149 t159 true _ A5.out (hT := M.tab_up HT (M.up HB))).mono ?_); rintro e w11 ⟨rfl, hb⟩; refine ⟨_, rfl, ?_⟩; have n0_ := Aside0.mk (IsS59.below (by repeat (first | (with_reducible first | exact HI0.out | apply IsS59.alloc | apply IsS59.drewN | apply IsS59.drew | apply IsS59.set_0 | apply IsS59.set_1 | apply IsS59.set_2 | apply IsS59.set_3) | exact HI0.out)) hb); have n1_ := Aside0.mk (KeepBut.trans (by repeat (first | (with_reducible first | exact HK.out | apply KeepBut.set_ | apply keep_drewN | apply keep_drew | apply keep_alloc) | exact HK.out)) (KeepBut.of_below hb g none) (.inl rfl)); have n2_ := Aside0.mk (below_step (by repeat (first | (with_reducible first | exact HB.out | apply below_alloc | apply pw_below_drewN | apply below_drew1 | refine below_set ?_ (IsS59.ge HI0.out)) | exact HB.out)) hb); clear HI0 HK HB; have HI0 := n0_; have HK := n1_; have HB := n2_; clear n0_ n1_ n2_; (try clear hb)) | ((with_reducible refine gate_callee (f := 34) rfl ?_); refine M.goes (some 23) Tryd.func34 #[.pointer (some ⟨g, 0, none⟩), .int .i64 3] rfl ?_; (with_reducible refine (scan_Scan_Fail.calls g t155 t156 t157 t158 3 t161 t162 t163 t164 w0 _ ?side1 ?side2 A8.out).mono ?_); (case side1 => repeat (first | (with_reducible first | exact HI0.out | apply IsS59.alloc | apply IsS59.drewN | apply IsS59.drew | apply IsS59.set_0 | apply IsS59.set_1 | apply IsS59.set_2 | apply IsS59.set_3) | exact HI0.out)); (case side2 => repeat (first | (with_reducible first | exact HB.out | apply below_alloc | apply pw_below_drewN | apply below_drew1 | refine below_set ?_ (IsS59.ge HI0.out)) | exact HB.out)); rintro e w12 ⟨rfl, hi, hb, hk⟩; refine ⟨_, rfl, ?_⟩; have n0_ := Aside0.mk (KeepBut.trans (by repeat (first | (with_reducible first | exact HK.out | apply KeepBut.set_ | apply keep_drewN | apply keep_drew | apply keep_alloc) | exact HK.out)) hk (.inl rfl)); have n1_ := Aside0.mk (hb); have n2_ := Aside0.mk (hi); clear HK HB HI0; have HK := n0_; have HB := n1_; have HI0 := n2_; clear n0_ n1_ n2_; (try clear hb); (try clear hk); (try clear hi)))
        go_ret
        exact ⟨by first | rfl | (simp [errW_none, errW_some] <;> rfl) | (simp [*, errW_none, errW_some] <;> rfl), by repeat (first | (with_reducible first | exact HI0.out | apply IsS59.alloc | apply IsS59.drewN | apply IsS59.drew | apply IsS59.set_0 | apply IsS59.set_1 | apply IsS59.set_2 | apply IsS59.set_3) | exact HI0.out), by repeat (first | (with_reducible first | exact HB.out | apply below_alloc | apply pw_below_drewN | apply below_drew1 | refine below_set ?_ (IsS59.ge HI0.out)) | exact HB.out), by repeat (first | (with_reducible first | exact HK.out | apply KeepBut.set_ | apply keep_drewN | apply keep_drew | apply keep_alloc) | exact HK.out)⟩
      · rw [if_neg c7] at H
        have c7b0 : (t159.toList == ([] : List UInt8)) = false := beq_eq_false_iff_ne.mpr c7
        have c7b1 : (t159.toList != ([] : List UInt8)) = true := bne_iff_ne.mpr c7
        simp only [Option.some.injEq, Prod.mk.injEq] at H
        obtain ⟨rfl, rfl, rfl, rfl, rfl⟩ := H
        go_enter Tryd.func16, Tryd.ntmps16
        go_wp2_with (first | ((with_reducible refine gate_callee (f := 32) rfl ?_); refine M.goes (some 7) Tryd.func32 #[.pointer (some ⟨g, 0, none⟩), .int .i64 65540] rfl ?_; (with_reducible refine (scan_Scan_Text.calls g s0_0 s0_1 s0_2 s0_3 65540 t149 t150 t151 t152 t153 w0 _ ?side1 ?side2 A2.out).mono ?_); (case side1 => repeat (first | (with_reducible first | exact HI0.out | apply IsS59.alloc | apply IsS59.drewN | apply IsS59.drew | apply IsS59.set_0 | apply IsS59.set_1 | apply IsS59.set_2 | apply IsS59.set_3) | exact HI0.out)); (case side2 => repeat (first | (with_reducible first | exact HB.out | apply below_alloc | apply pw_below_drewN | apply below_drew1 | refine below_set ?_ (IsS59.ge HI0.out)) | exact HB.out)); rintro e w13 ⟨rfl, hi, hb, hk⟩; refine ⟨_, rfl, ?_⟩; have n0_ := Aside0.mk (KeepBut.trans (by repeat (first | (with_reducible first | exact HK.out | apply KeepBut.set_ | apply keep_drewN | apply keep_drew | apply keep_alloc) | exact HK.out)) hk (.inl rfl)); have n1_ := Aside0.mk (hb); have n2_ := Aside0.mk (hi); clear HK HB HI0; have HK := n0_; have HB := n1_; have HI0 := n2_; clear n0_ n1_ n2_; (try clear hb); (try clear hk); (try clear hi)) | ((with_reducible refine gate_callee (f := 19) rfl ?_); refine M.goes (some 9) Tryd.func19 #[.pointer (some ⟨g, 0, none⟩)] rfl ?_; (with_reducible refine (scan_Scan_Err.calls g t150 t151 t152 t153 t154 t155 t156 t157 t158 w0 _ ?side1 ?side2 A3.out).mono ?_); (case side1 => repeat (first | (with_reducible first | exact HI0.out | apply IsS59.alloc | apply IsS59.drewN | apply IsS59.drew | apply IsS59.set_0 | apply IsS59.set_1 | apply IsS59.set_2 | apply IsS59.set_3) | exact HI0.out)); (case side2 => repeat (first | (with_reducible first | exact HB.out | apply below_alloc | apply pw_below_drewN | apply below_drew1 | refine below_set ?_ (IsS59.ge HI0.out)) | exact HB.out)); rintro e w14 ⟨rfl, hi, hb, hk⟩; refine ⟨_, rfl, ?_⟩; have n0_ := Aside0.mk (KeepBut.trans (by repeat (first | (with_reducible first | exact HK.out | apply KeepBut.set_ | apply keep_drewN | apply keep_drew | apply keep_alloc) | exact HK.out)) hk (.inl rfl)); have n1_ := Aside0.mk (hb); have n2_ := Aside0.mk (hi); clear HK HB HI0; have HK := n0_; have HB := n1_; have HI0 := n2_; clear n0_ n1_ n2_; (try clear hb); (try clear hk); (try clear hi)) | ((with_reducible refine gate_callee (f := 33) rfl ?_); refine M.goes (some 13) Tryd.func33 #[.string t149] rfl ?_; (with_reducible refine (crc_Open.calls t149 t159 true _ A5.out (hT := M.tab_up HT (M.up HB))).mono ?_); rintro e w15 ⟨rfl, hb⟩; refine ⟨_, rfl, ?_⟩; have n0_ := Aside0.mk (IsS59.below (by repeat (first | (with_reducible first | exact HI0.out | apply IsS59.alloc | apply IsS59.drewN | apply IsS59.drew | apply IsS59.set_0 | apply IsS59.set_1 | apply IsS59.set_2 | apply IsS59.set_3) | exact HI0.out)) hb); have n1_ := Aside0.mk (KeepBut.trans (by repeat (first | (with_reducible first | exact HK.out | apply KeepBut.set_ | apply keep_drewN | apply keep_drew | apply keep_alloc) | exact HK.out)) (KeepBut.of_below hb g none) (.inl rfl)); have n2_ := Aside0.mk (below_step (by repeat (first | (with_reducible first | exact HB.out | apply below_alloc | apply pw_below_drewN | apply below_drew1 | refine below_set ?_ (IsS59.ge HI0.out)) | exact HB.out)) hb); clear HI0 HK HB; have HI0 := n0_; have HK := n1_; have HB := n2_; clear n0_ n1_ n2_; (try clear hb)))
        go_ret
        exact ⟨by first | rfl | (simp [errW_none, errW_some] <;> rfl) | (simp [*, errW_none, errW_some] <;> rfl), by repeat (first | (with_reducible first | exact HI0.out | apply IsS59.alloc | apply IsS59.drewN | apply IsS59.drew | apply IsS59.set_0 | apply IsS59.set_1 | apply IsS59.set_2 | apply IsS59.set_3) | exact HI0.out), by repeat (first | (with_reducible first | exact HB.out | apply below_alloc | apply pw_below_drewN | apply below_drew1 | refine below_set ?_ (IsS59.ge HI0.out)) | exact HB.out), by repeat (first | (with_reducible first | exact HK.out | apply KeepBut.set_ | apply keep_drewN | apply keep_drew | apply keep_alloc) | exact HK.out)⟩
    · replace c6 := Bool.eq_false_iff.mpr c6
      subst c6
      have H1 : ((scan_Scan_Fail.f t155 t156 t157 t158 3).bind fun bt165 => (some ((⟨#[]⟩ : ByteArray), bt165.1, bt165.2.1, bt165.2.2.1, bt165.2.2.2))) = some (r1, r2, r3, r4, r5) := by rw [if_neg (show ¬ (false = true) by decide)] at H; exact H
      clear H
      have H := H1
      clear H1
      replace H := Option.bind_eq_some_iff.mp H
      obtain ⟨⟨t165, t166, t167, t168⟩, A160, H⟩ := H
      replace H : (some ((⟨#[]⟩ : ByteArray), t165, t166, t167, t168)) = some (r1, r2, r3, r4, r5) := H
      have A16 := Aside0.mk A160
      clear A160
      simp only [Option.some.injEq, Prod.mk.injEq] at H
      obtain ⟨rfl, rfl, rfl, rfl, rfl⟩ := H
      go_enter Tryd.func16, Tryd.ntmps16
      go_wp2_with (first | ((with_reducible refine gate_callee (f := 32) rfl ?_); refine M.goes (some 7) Tryd.func32 #[.pointer (some ⟨g, 0, none⟩), .int .i64 65540] rfl ?_; (with_reducible refine (scan_Scan_Text.calls g s0_0 s0_1 s0_2 s0_3 65540 t149 t150 t151 t152 t153 w0 _ ?side1 ?side2 A2.out).mono ?_); (case side1 => repeat (first | (with_reducible first | exact HI0.out | apply IsS59.alloc | apply IsS59.drewN | apply IsS59.drew | apply IsS59.set_0 | apply IsS59.set_1 | apply IsS59.set_2 | apply IsS59.set_3) | exact HI0.out)); (case side2 => repeat (first | (with_reducible first | exact HB.out | apply below_alloc | apply pw_below_drewN | apply below_drew1 | refine below_set ?_ (IsS59.ge HI0.out)) | exact HB.out)); rintro e w17 ⟨rfl, hi, hb, hk⟩; refine ⟨_, rfl, ?_⟩; have n0_ := Aside0.mk (KeepBut.trans (by repeat (first | (with_reducible first | exact HK.out | apply KeepBut.set_ | apply keep_drewN | apply keep_drew | apply keep_alloc) | exact HK.out)) hk (.inl rfl)); have n1_ := Aside0.mk (hb); have n2_ := Aside0.mk (hi); clear HK HB HI0; have HK := n0_; have HB := n1_; have HI0 := n2_; clear n0_ n1_ n2_; (try clear hb); (try clear hk); (try clear hi)) | ((with_reducible refine gate_callee (f := 19) rfl ?_); refine M.goes (some 9) Tryd.func19 #[.pointer (some ⟨g, 0, none⟩)] rfl ?_; (with_reducible refine (scan_Scan_Err.calls g t150 t151 t152 t153 t154 t155 t156 t157 t158 w0 _ ?side1 ?side2 A3.out).mono ?_); (case side1 => repeat (first | (with_reducible first | exact HI0.out | apply IsS59.alloc | apply IsS59.drewN | apply IsS59.drew | apply IsS59.set_0 | apply IsS59.set_1 | apply IsS59.set_2 | apply IsS59.set_3) | exact HI0.out)); (case side2 => repeat (first | (with_reducible first | exact HB.out | apply below_alloc | apply pw_below_drewN | apply below_drew1 | refine below_set ?_ (IsS59.ge HI0.out)) | exact HB.out)); rintro e w18 ⟨rfl, hi, hb, hk⟩; refine ⟨_, rfl, ?_⟩; have n0_ := Aside0.mk (KeepBut.trans (by repeat (first | (with_reducible first | exact HK.out | apply KeepBut.set_ | apply keep_drewN | apply keep_drew | apply keep_alloc) | exact HK.out)) hk (.inl rfl)); have n1_ := Aside0.mk (hb); have n2_ := Aside0.mk (hi); clear HK HB HI0; have HK := n0_; have HB := n1_; have HI0 := n2_; clear n0_ n1_ n2_; (try clear hb); (try clear hk); (try clear hi)) | ((with_reducible refine gate_callee (f := 33) rfl ?_); refine M.goes (some 13) Tryd.func33 #[.string t149] rfl ?_; (with_reducible refine (crc_Open.calls t149 t159 false _ A5.out (hT := M.tab_up HT (M.up HB))).mono ?_); rintro e w19 ⟨rfl, hb⟩; refine ⟨_, rfl, ?_⟩; have n0_ := Aside0.mk (IsS59.below (by repeat (first | (with_reducible first | exact HI0.out | apply IsS59.alloc | apply IsS59.drewN | apply IsS59.drew | apply IsS59.set_0 | apply IsS59.set_1 | apply IsS59.set_2 | apply IsS59.set_3) | exact HI0.out)) hb); have n1_ := Aside0.mk (KeepBut.trans (by repeat (first | (with_reducible first | exact HK.out | apply KeepBut.set_ | apply keep_drewN | apply keep_drew | apply keep_alloc) | exact HK.out)) (KeepBut.of_below hb g none) (.inl rfl)); have n2_ := Aside0.mk (below_step (by repeat (first | (with_reducible first | exact HB.out | apply below_alloc | apply pw_below_drewN | apply below_drew1 | refine below_set ?_ (IsS59.ge HI0.out)) | exact HB.out)) hb); clear HI0 HK HB; have HI0 := n0_; have HK := n1_; have HB := n2_; clear n0_ n1_ n2_; (try clear hb)) | ((with_reducible refine gate_callee (f := 34) rfl ?_); refine M.goes (some 23) Tryd.func34 #[.pointer (some ⟨g, 0, none⟩), .int .i64 3] rfl ?_; (with_reducible refine (scan_Scan_Fail.calls g t155 t156 t157 t158 3 t165 t166 t167 t168 w0 _ ?side1 ?side2 A16.out).mono ?_); (case side1 => repeat (first | (with_reducible first | exact HI0.out | apply IsS59.alloc | apply IsS59.drewN | apply IsS59.drew | apply IsS59.set_0 | apply IsS59.set_1 | apply IsS59.set_2 | apply IsS59.set_3) | exact HI0.out)); (case side2 => repeat (first | (with_reducible first | exact HB.out | apply below_alloc | apply pw_below_drewN | apply below_drew1 | refine below_set ?_ (IsS59.ge HI0.out)) | exact HB.out)); rintro e w20 ⟨rfl, hi, hb, hk⟩; refine ⟨_, rfl, ?_⟩; have n0_ := Aside0.mk (KeepBut.trans (by repeat (first | (with_reducible first | exact HK.out | apply KeepBut.set_ | apply keep_drewN | apply keep_drew | apply keep_alloc) | exact HK.out)) hk (.inl rfl)); have n1_ := Aside0.mk (hb); have n2_ := Aside0.mk (hi); clear HK HB HI0; have HK := n0_; have HB := n1_; have HI0 := n2_; clear n0_ n1_ n2_; (try clear hb); (try clear hk); (try clear hi)))
      go_ret
      exact ⟨by first | rfl | (simp [errW_none, errW_some] <;> rfl) | (simp [*, errW_none, errW_some] <;> rfl), by repeat (first | (with_reducible first | exact HI0.out | apply IsS59.alloc | apply IsS59.drewN | apply IsS59.drew | apply IsS59.set_0 | apply IsS59.set_1 | apply IsS59.set_2 | apply IsS59.set_3) | exact HI0.out), by repeat (first | (with_reducible first | exact HB.out | apply below_alloc | apply pw_below_drewN | apply below_drew1 | refine below_set ?_ (IsS59.ge HI0.out)) | exact HB.out), by repeat (first | (with_reducible first | exact HK.out | apply KeepBut.set_ | apply keep_drewN | apply keep_drew | apply keep_alloc) | exact HK.out)⟩
  · rw [if_neg c4] at H
    have c4b0 : (t154 == 0) = false := beq_eq_false_iff_ne.mpr c4
    have c4b1 : (t154 != 0) = true := bne_iff_ne.mpr c4
    simp only [Option.some.injEq, Prod.mk.injEq] at H
    obtain ⟨rfl, rfl, rfl, rfl, rfl⟩ := H
    go_enter Tryd.func16, Tryd.ntmps16
    go_wp2_with (first | ((with_reducible refine gate_callee (f := 32) rfl ?_); refine M.goes (some 7) Tryd.func32 #[.pointer (some ⟨g, 0, none⟩), .int .i64 65540] rfl ?_; (with_reducible refine (scan_Scan_Text.calls g s0_0 s0_1 s0_2 s0_3 65540 t149 t150 t151 t152 t153 w0 _ ?side1 ?side2 A2.out).mono ?_); (case side1 => repeat (first | (with_reducible first | exact HI0.out | apply IsS59.alloc | apply IsS59.drewN | apply IsS59.drew | apply IsS59.set_0 | apply IsS59.set_1 | apply IsS59.set_2 | apply IsS59.set_3) | exact HI0.out)); (case side2 => repeat (first | (with_reducible first | exact HB.out | apply below_alloc | apply pw_below_drewN | apply below_drew1 | refine below_set ?_ (IsS59.ge HI0.out)) | exact HB.out)); rintro e w21 ⟨rfl, hi, hb, hk⟩; refine ⟨_, rfl, ?_⟩; have n0_ := Aside0.mk (KeepBut.trans (by repeat (first | (with_reducible first | exact HK.out | apply KeepBut.set_ | apply keep_drewN | apply keep_drew | apply keep_alloc) | exact HK.out)) hk (.inl rfl)); have n1_ := Aside0.mk (hb); have n2_ := Aside0.mk (hi); clear HK HB HI0; have HK := n0_; have HB := n1_; have HI0 := n2_; clear n0_ n1_ n2_; (try clear hb); (try clear hk); (try clear hi)) | ((with_reducible refine gate_callee (f := 19) rfl ?_); refine M.goes (some 9) Tryd.func19 #[.pointer (some ⟨g, 0, none⟩)] rfl ?_; (with_reducible refine (scan_Scan_Err.calls g t150 t151 t152 t153 t154 t155 t156 t157 t158 w0 _ ?side1 ?side2 A3.out).mono ?_); (case side1 => repeat (first | (with_reducible first | exact HI0.out | apply IsS59.alloc | apply IsS59.drewN | apply IsS59.drew | apply IsS59.set_0 | apply IsS59.set_1 | apply IsS59.set_2 | apply IsS59.set_3) | exact HI0.out)); (case side2 => repeat (first | (with_reducible first | exact HB.out | apply below_alloc | apply pw_below_drewN | apply below_drew1 | refine below_set ?_ (IsS59.ge HI0.out)) | exact HB.out)); rintro e w22 ⟨rfl, hi, hb, hk⟩; refine ⟨_, rfl, ?_⟩; have n0_ := Aside0.mk (KeepBut.trans (by repeat (first | (with_reducible first | exact HK.out | apply KeepBut.set_ | apply keep_drewN | apply keep_drew | apply keep_alloc) | exact HK.out)) hk (.inl rfl)); have n1_ := Aside0.mk (hb); have n2_ := Aside0.mk (hi); clear HK HB HI0; have HK := n0_; have HB := n1_; have HI0 := n2_; clear n0_ n1_ n2_; (try clear hb); (try clear hk); (try clear hi)))
    go_ret
    exact ⟨by first | rfl | (simp [errW_none, errW_some] <;> rfl) | (simp [*, errW_none, errW_some] <;> rfl), by repeat (first | (with_reducible first | exact HI0.out | apply IsS59.alloc | apply IsS59.drewN | apply IsS59.drew | apply IsS59.set_0 | apply IsS59.set_1 | apply IsS59.set_2 | apply IsS59.set_3) | exact HI0.out), by repeat (first | (with_reducible first | exact HB.out | apply below_alloc | apply pw_below_drewN | apply below_drew1 | refine below_set ?_ (IsS59.ge HI0.out)) | exact HB.out), by repeat (first | (with_reducible first | exact HK.out | apply KeepBut.set_ | apply keep_drewN | apply keep_drew | apply keep_alloc) | exact HK.out)⟩

-- this session's own plain form
def frame_Read.f (s0_0 : ByteArray) (s0_1 : Int) (s0_2 : Int) (s0_3 : Bool) : Option (ByteArray × ByteArray × Int × Int × Bool) :=
  if s0_3 = true ∧ M.sok s0_0 s0_1 ∧ s0_0.size ≤ 9223372036854775806 then some ((M.fread s0_0 s0_1 s0_2).1, s0_0, (M.fread s0_0 s0_1 s0_2).2.1, (M.fread s0_0 s0_1 s0_2).2.2, true) else none
theorem frame_Read.text_size {s : ByteArray} {p er : Int} (hs : M.sok s p) (hz : s.size ≤ 9223372036854775806) (h : (M.xtext s p er 65540).2.2 = 0) : (M.xtext s p er 65540).1.size ≤ 9223372036854775806 := by
  have := (M.xtext_span hs h).2.2; omega
theorem frame_Read.ev (s : ByteArray) (p er : Int) (md : Bool) (r : ByteArray × ByteArray × Int × Int × Bool) (h : frame_Read.f s p er md = some r) : frame_Read_p.f s p er md = some r := by
  unfold frame_Read.f at h
  split at h
  case isFalse => cases h
  case isTrue hh =>
    obtain ⟨rfl, hs, hz⟩ := hh
    rw [← h]
    unfold frame_Read_p.f scan_Scan_Text.f scan_Scan_Err.f scan_Scan_Fail.f scan_Scan_fail.f scan_Scan_Err.f
    rw [if_pos rfl, if_pos ⟨hs, by decide⟩]
    simp only [Option.bind_some, if_true]
    by_cases h0 : (M.xtext s p er 65540).2.2 = 0
    · have hf : M.fread s p er = if (M.copen (M.xtext s p er 65540).1).2 = true ∧ (M.copen (M.xtext s p er 65540).1).1.size ≠ 0 then ((M.copen (M.xtext s p er 65540).1).1, (M.xtext s p er 65540).2.1, 0) else (M.sb [], (M.xtext s p er 65540).2.1, 3) := by
        unfold M.fread; rw [if_pos h0]
      unfold crc_Open.f
      rw [if_pos h0, if_pos (frame_Read.text_size hs hz h0), Option.bind_some, hf]
      rw [h0, if_neg (by decide : ¬ (3 : Int) = 0), if_pos (rfl : (0 : Int) = 0)]
      cases hb : (M.copen (M.xtext s p er 65540).1).2 with
      | false => rfl
      | true =>
        rw [if_pos rfl]
        by_cases hn : (M.copen (M.xtext s p er 65540).1).1.size = 0
        · rw [if_pos ((M.nil_iff _).2 hn), if_neg (fun z => z.2 hn)]; rfl
        · rw [if_neg (fun z => hn ((M.nil_iff _).1 z)), if_pos ⟨rfl, hn⟩]
    · have hf : M.fread s p er = (M.sb [], (M.xtext s p er 65540).2.1, (M.xtext s p er 65540).2.2) := by unfold M.fread; rw [if_neg h0]
      rw [if_neg h0, hf]; rfl
theorem frame_Read.calls (g : Nat) (s0_0 : ByteArray) (s0_1 : Int) (s0_2 : Int) (s0_3 : Bool) (r1 : ByteArray) (r2 : ByteArray) (r3 : Int) (r4 : Int) (r5 : Bool) (w0 w : World) (hI : IsS59 w0 w g s0_0 s0_1 s0_2 s0_3) (hB : Below w0.heap.size w0 w) (h : frame_Read.f s0_0 s0_1 s0_2 s0_3 = some (r1, r2, r3, r4, r5)) (hT : M.tab 0 w0) :
    Calls Tryd.prog 16 #[.pointer (some ⟨g, 0, none⟩)] w fun e w' => e = .returned (.string r1) ∧ IsS59 w0 w' g r2 r3 r4 r5 ∧ Below w0.heap.size w0 w' ∧ KeepBut w w' g none := by
  have HT := Aside0.mk hT
  clear hT
  exact frame_Read_p.calls (hT := HT.out) (w := w) (h := frame_Read.ev _ _ _ _ _ h) (hI := hI) (hB := hB)

/-! ### scan_Scan_At: function 20 -/
def scan_Scan_At.f (s0_0 : ByteArray) (s0_1 : Int) (s0_2 : Int) (s0_3 : Bool) : Option (Int × ByteArray × Int × Int × Bool) := some (s0_1, s0_0, s0_1, s0_2, s0_3)
set_option maxHeartbeats 8000000 in
set_option maxRecDepth 100000 in
theorem scan_Scan_At.calls (g : Nat) (s0_0 : ByteArray) (s0_1 : Int) (s0_2 : Int) (s0_3 : Bool) (r1 : Int) (r2 : ByteArray) (r3 : Int) (r4 : Int) (r5 : Bool) (w0 w : World) (hI : IsS59 w0 w g s0_0 s0_1 s0_2 s0_3) (hB : Below w0.heap.size w0 w) (h : scan_Scan_At.f s0_0 s0_1 s0_2 s0_3 = some (r1, r2, r3, r4, r5)) :
    Calls Tryd.prog 20 #[.pointer (some ⟨g, 0, none⟩)] w fun e w' => e = .returned (.int .i64 r1) ∧ IsS59 w0 w' g r2 r3 r4 r5 ∧ Below w0.heap.size w0 w' ∧ KeepBut w w' g none := by
  have HI0 := Aside0.mk hI
  have HK := Aside0.mk (KeepBut.refl w g none)
  have HL := Aside0.mk hB.size
  clear hI
  have HW0 := Aside0.mk hB.size
  have HB := Aside0.mk hB
  clear hB
  have H : (some (s0_1, s0_0, s0_1, s0_2, s0_3)) = some (r1, r2, r3, r4, r5) := h
  clear h
  simp only [Option.some.injEq, Prod.mk.injEq] at H
  obtain ⟨rfl, rfl, rfl, rfl, rfl⟩ := H
  obtain ⟨HGz2, hgz2⟩ := HI0.out
  have zaa := cellS59_0 HGz2
  have zab := cellS59_1 HGz2
  have zac := cellS59_2 HGz2
  have zad := cellS59_3 HGz2
  have zae := blk_frozen HGz2 0
  have zaf := blk_frozen HGz2 1
  have zag := blk_frozen HGz2 2
  have zah := blk_frozen HGz2 3
  clear HGz2 hgz2
  go_enter Tryd.func20, Tryd.ntmps20
  go_wp2
  go_ret
  exact ⟨by first | rfl | (simp [errW_none, errW_some] <;> rfl) | (simp [*, errW_none, errW_some] <;> rfl), by repeat (first | (with_reducible first | exact HI0.out | apply IsS59.alloc | apply IsS59.drewN | apply IsS59.drew | apply IsS59.set_0 | apply IsS59.set_1 | apply IsS59.set_2 | apply IsS59.set_3) | exact HI0.out), by repeat (first | (with_reducible first | exact HB.out | apply below_alloc | apply pw_below_drewN | apply below_drew1 | refine below_set ?_ (IsS59.ge HI0.out)) | exact HB.out), by repeat (first | (with_reducible first | exact HK.out | apply KeepBut.set_ | apply keep_drewN | apply keep_drew | apply keep_alloc) | exact HK.out)⟩

/-! ### frame_Take_p: function 18 -/
def frame_Take_p.f (a0 : ByteArray) : Option (ByteArray × Int × Int) := (scan_New.f a0).bind fun bt169 => ((frame_Read.f bt169.1 bt169.2.1 bt169.2.2.1 bt169.2.2.2).bind fun bt174 => ((scan_Scan_Err.f bt174.2.1 bt174.2.2.1 bt174.2.2.2.1 bt174.2.2.2.2).bind fun bt179 => (if bt179.1 = 0 then ((scan_Scan_At.f bt179.2.1 bt179.2.2.1 bt179.2.2.2.1 bt179.2.2.2.2).bind fun bt184 => (some (bt174.1, bt184.1, 0))) else (some ((⟨#[]⟩ : ByteArray), 0, 3)))))
set_option maxHeartbeats 8000000 in
set_option maxRecDepth 100000 in
theorem frame_Take_p.calls (a0 : ByteArray) (r1 : ByteArray) (r2 : Int) (r3 : Int) (w : World) (h : frame_Take_p.f a0 = some (r1, r2, r3)) (hT : M.tab 0 w) :
    Calls Tryd.prog 18 #[.string a0] w fun e w' => e = .returned (.tuple #[.string r1, .int .i64 r2, .int .i64 r3]) ∧ Below w.heap.size w w' := by
  have HT := Aside0.mk hT
  clear hT
  have HB := Aside0.mk (Below.refl w.heap.size w)
  have H : ((scan_New.f a0).bind fun bt169 => ((frame_Read.f bt169.1 bt169.2.1 bt169.2.2.1 bt169.2.2.2).bind fun bt174 => ((scan_Scan_Err.f bt174.2.1 bt174.2.2.1 bt174.2.2.2.1 bt174.2.2.2.2).bind fun bt179 => (if bt179.1 = 0 then ((scan_Scan_At.f bt179.2.1 bt179.2.2.1 bt179.2.2.2.1 bt179.2.2.2.2).bind fun bt184 => (some (bt174.1, bt184.1, 0))) else (some ((⟨#[]⟩ : ByteArray), 0, 3)))))) = some (r1, r2, r3) := h
  clear h
  replace H := Option.bind_eq_some_iff.mp H
  obtain ⟨⟨t169, t170, t171, t172⟩, A20, H⟩ := H
  replace H : ((frame_Read.f t169 t170 t171 t172).bind fun bt174 => ((scan_Scan_Err.f bt174.2.1 bt174.2.2.1 bt174.2.2.2.1 bt174.2.2.2.2).bind fun bt179 => (if bt179.1 = 0 then ((scan_Scan_At.f bt179.2.1 bt179.2.2.1 bt179.2.2.2.1 bt179.2.2.2.2).bind fun bt184 => (some (bt174.1, bt184.1, 0))) else (some ((⟨#[]⟩ : ByteArray), 0, 3))))) = some (r1, r2, r3) := H
  have A2 := Aside0.mk A20
  clear A20
  replace H := Option.bind_eq_some_iff.mp H
  obtain ⟨⟨t174, t175, t176, t177, t178⟩, A30, H⟩ := H
  replace H : ((scan_Scan_Err.f t175 t176 t177 t178).bind fun bt179 => (if bt179.1 = 0 then ((scan_Scan_At.f bt179.2.1 bt179.2.2.1 bt179.2.2.2.1 bt179.2.2.2.2).bind fun bt184 => (some (t174, bt184.1, 0))) else (some ((⟨#[]⟩ : ByteArray), 0, 3)))) = some (r1, r2, r3) := H
  have A3 := Aside0.mk A30
  clear A30
  replace H := Option.bind_eq_some_iff.mp H
  obtain ⟨⟨t179, t180, t181, t182, t183⟩, A40, H⟩ := H
  replace H : (if t179 = 0 then ((scan_Scan_At.f t180 t181 t182 t183).bind fun bt184 => (some (t174, bt184.1, 0))) else (some ((⟨#[]⟩ : ByteArray), 0, 3))) = some (r1, r2, r3) := H
  have A4 := Aside0.mk A40
  clear A40
  by_cases c5 : t179 = 0
  · rw [if_pos c5] at H
    have c5b0 : (t179 == 0) = true := beq_iff_eq.mpr c5
    have c5b1 : (t179 != 0) = false := bne_eq_false_iff_eq.mpr c5
    clear c5
    replace H := Option.bind_eq_some_iff.mp H
    obtain ⟨⟨t184, t185, t186, t187, t188⟩, A60, H⟩ := H
    replace H : (some (t174, t184, 0)) = some (r1, r2, r3) := H
    have A6 := Aside0.mk A60
    clear A60
    simp only [Option.some.injEq, Prod.mk.injEq] at H
    obtain ⟨rfl, rfl, rfl⟩ := H
    go_enter Tryd.func18, Tryd.ntmps18
    go_wp2_with (first | ((with_reducible refine gate_callee (f := 15) rfl ?_); refine M.goes (some 8) Tryd.func15 #[.string a0] rfl ?_; (with_reducible refine (scan_New.calls a0 t169 t170 t171 t172 w _ ?side1 A2.out).mono ?_); (case side1 => repeat (first | (with_reducible first | exact HB.out | apply below_alloc | apply pw_below_drewN | apply below_drew1) | exact HB.out)); rintro e w7 ⟨g173, rfl, hi, hb, hb2⟩; refine ⟨_, rfl, ?_⟩; have n0_ := Aside0.mk (hb); have n1_ := Aside0.mk (hi); clear HB; have HB := n0_; have HI173 := n1_; clear n0_ n1_; (try clear hb); (try clear hb2); (try clear hi)) | ((with_reducible refine gate_callee (f := 16) rfl ?_); refine M.goes (some 10) Tryd.func16 #[.pointer (some ⟨g173, 0, none⟩)] rfl ?_; (with_reducible refine (frame_Read.calls g173 t169 t170 t171 t172 t174 t175 t176 t177 t178 w _ ?side1 ?side2 A3.out (hT := HT.out)).mono ?_); (case side1 => repeat (first | (with_reducible first | exact HI173.out | apply IsS59.alloc | apply IsS59.drewN | apply IsS59.drew | apply IsS59.set_0 | apply IsS59.set_1 | apply IsS59.set_2 | apply IsS59.set_3) | exact HI173.out)); (case side2 => repeat (first | (with_reducible first | exact HB.out | apply below_alloc | apply pw_below_drewN | apply below_drew1 | refine below_set ?_ (IsS59.ge HI173.out)) | exact HB.out)); rintro e w8 ⟨rfl, hi, hb, hk⟩; refine ⟨_, rfl, ?_⟩; have n0_ := Aside0.mk (hb); have n1_ := Aside0.mk (hi); clear HB HI173; have HB := n0_; have HI173 := n1_; clear n0_ n1_; (try clear hb); (try clear hk); (try clear hi)) | ((with_reducible refine gate_callee (f := 19) rfl ?_); refine M.goes (some 12) Tryd.func19 #[.pointer (some ⟨g173, 0, none⟩)] rfl ?_; (with_reducible refine (scan_Scan_Err.calls g173 t175 t176 t177 t178 t179 t180 t181 t182 t183 w _ ?side1 ?side2 A4.out).mono ?_); (case side1 => repeat (first | (with_reducible first | exact HI173.out | apply IsS59.alloc | apply IsS59.drewN | apply IsS59.drew | apply IsS59.set_0 | apply IsS59.set_1 | apply IsS59.set_2 | apply IsS59.set_3) | exact HI173.out)); (case side2 => repeat (first | (with_reducible first | exact HB.out | apply below_alloc | apply pw_below_drewN | apply below_drew1 | refine below_set ?_ (IsS59.ge HI173.out)) | exact HB.out)); rintro e w9 ⟨rfl, hi, hb, hk⟩; refine ⟨_, rfl, ?_⟩; have n0_ := Aside0.mk (hb); have n1_ := Aside0.mk (hi); clear HB HI173; have HB := n0_; have HI173 := n1_; clear n0_ n1_; (try clear hb); (try clear hk); (try clear hi)) | ((with_reducible refine gate_callee (f := 20) rfl ?_); refine M.goes (some 16) Tryd.func20 #[.pointer (some ⟨g173, 0, none⟩)] rfl ?_; (with_reducible refine (scan_Scan_At.calls g173 t180 t181 t182 t183 t184 t185 t186 t187 t188 w _ ?side1 ?side2 A6.out).mono ?_); (case side1 => repeat (first | (with_reducible first | exact HI173.out | apply IsS59.alloc | apply IsS59.drewN | apply IsS59.drew | apply IsS59.set_0 | apply IsS59.set_1 | apply IsS59.set_2 | apply IsS59.set_3) | exact HI173.out)); (case side2 => repeat (first | (with_reducible first | exact HB.out | apply below_alloc | apply pw_below_drewN | apply below_drew1 | refine below_set ?_ (IsS59.ge HI173.out)) | exact HB.out)); rintro e w10 ⟨rfl, hi, hb, hk⟩; refine ⟨_, rfl, ?_⟩; have n0_ := Aside0.mk (hb); have n1_ := Aside0.mk (hi); clear HB HI173; have HB := n0_; have HI173 := n1_; clear n0_ n1_; (try clear hb); (try clear hk); (try clear hi)))
    go_ret3
    exact ⟨by first | rfl | (simp [errW_none, errW_some] <;> rfl) | (simp [*, errW_none, errW_some] <;> rfl), by repeat (first | (with_reducible first | exact HB.out | apply below_alloc | apply pw_below_drewN | apply below_drew1 | refine below_set ?_ (IsS59.ge HI173.out)) | exact HB.out)⟩
  · rw [if_neg c5] at H
    have c5b0 : (t179 == 0) = false := beq_eq_false_iff_ne.mpr c5
    have c5b1 : (t179 != 0) = true := bne_iff_ne.mpr c5
    simp only [Option.some.injEq, Prod.mk.injEq] at H
    obtain ⟨rfl, rfl, rfl⟩ := H
    go_enter Tryd.func18, Tryd.ntmps18
    go_wp2_with (first | ((with_reducible refine gate_callee (f := 15) rfl ?_); refine M.goes (some 8) Tryd.func15 #[.string a0] rfl ?_; (with_reducible refine (scan_New.calls a0 t169 t170 t171 t172 w _ ?side1 A2.out).mono ?_); (case side1 => repeat (first | (with_reducible first | exact HB.out | apply below_alloc | apply pw_below_drewN | apply below_drew1) | exact HB.out)); rintro e w11 ⟨g173, rfl, hi, hb, hb2⟩; refine ⟨_, rfl, ?_⟩; have n0_ := Aside0.mk (hb); have n1_ := Aside0.mk (hi); clear HB; have HB := n0_; have HI173 := n1_; clear n0_ n1_; (try clear hb); (try clear hb2); (try clear hi)) | ((with_reducible refine gate_callee (f := 16) rfl ?_); refine M.goes (some 10) Tryd.func16 #[.pointer (some ⟨g173, 0, none⟩)] rfl ?_; (with_reducible refine (frame_Read.calls g173 t169 t170 t171 t172 t174 t175 t176 t177 t178 w _ ?side1 ?side2 A3.out (hT := HT.out)).mono ?_); (case side1 => repeat (first | (with_reducible first | exact HI173.out | apply IsS59.alloc | apply IsS59.drewN | apply IsS59.drew | apply IsS59.set_0 | apply IsS59.set_1 | apply IsS59.set_2 | apply IsS59.set_3) | exact HI173.out)); (case side2 => repeat (first | (with_reducible first | exact HB.out | apply below_alloc | apply pw_below_drewN | apply below_drew1 | refine below_set ?_ (IsS59.ge HI173.out)) | exact HB.out)); rintro e w12 ⟨rfl, hi, hb, hk⟩; refine ⟨_, rfl, ?_⟩; have n0_ := Aside0.mk (hb); have n1_ := Aside0.mk (hi); clear HB HI173; have HB := n0_; have HI173 := n1_; clear n0_ n1_; (try clear hb); (try clear hk); (try clear hi)) | ((with_reducible refine gate_callee (f := 19) rfl ?_); refine M.goes (some 12) Tryd.func19 #[.pointer (some ⟨g173, 0, none⟩)] rfl ?_; (with_reducible refine (scan_Scan_Err.calls g173 t175 t176 t177 t178 t179 t180 t181 t182 t183 w _ ?side1 ?side2 A4.out).mono ?_); (case side1 => repeat (first | (with_reducible first | exact HI173.out | apply IsS59.alloc | apply IsS59.drewN | apply IsS59.drew | apply IsS59.set_0 | apply IsS59.set_1 | apply IsS59.set_2 | apply IsS59.set_3) | exact HI173.out)); (case side2 => repeat (first | (with_reducible first | exact HB.out | apply below_alloc | apply pw_below_drewN | apply below_drew1 | refine below_set ?_ (IsS59.ge HI173.out)) | exact HB.out)); rintro e w13 ⟨rfl, hi, hb, hk⟩; refine ⟨_, rfl, ?_⟩; have n0_ := Aside0.mk (hb); have n1_ := Aside0.mk (hi); clear HB HI173; have HB := n0_; have HI173 := n1_; clear n0_ n1_; (try clear hb); (try clear hk); (try clear hi)))
    go_ret3
    exact ⟨by first | rfl | (simp [errW_none, errW_some] <;> rfl) | (simp [*, errW_none, errW_some] <;> rfl), by repeat (first | (with_reducible first | exact HB.out | apply below_alloc | apply pw_below_drewN | apply below_drew1 | refine below_set ?_ (IsS59.ge HI173.out)) | exact HB.out)⟩

-- this session's own plain form
def frame_Take.f (a0 : ByteArray) : Option (ByteArray × Int × Int) := if a0.size ≤ 9223372036854775806 then some (M.ftake a0) else none
theorem frame_Take.ev (s : ByteArray) (r : ByteArray × Int × Int) (h : frame_Take.f s = some r) : frame_Take_p.f s = some r := by
  unfold frame_Take.f at h
  split at h
  case isFalse => cases h
  case isTrue hz =>
    rw [← h]
    unfold frame_Take_p.f scan_New.f frame_Read.f scan_Scan_Err.f scan_Scan_At.f M.ftake
    simp only [Option.bind_some, if_true]
    rw [if_pos ⟨trivial, ⟨by decide, by omega, by omega⟩, hz⟩]
    simp only [Option.bind_some, if_true]
    split <;> rfl
theorem frame_Take.calls (a0 : ByteArray) (r1 : ByteArray) (r2 : Int) (r3 : Int) (w : World) (h : frame_Take.f a0 = some (r1, r2, r3)) (hT : M.tab 0 w) :
    Calls Tryd.prog 18 #[.string a0] w fun e w' => e = .returned (.tuple #[.string r1, .int .i64 r2, .int .i64 r3]) ∧ Below w.heap.size w w' := by
  have HT := Aside0.mk hT
  clear hT
  exact frame_Take_p.calls (hT := HT.out) (w := w) (h := frame_Take.ev _ _ h)

/-! ### pleachlaw14_awake: function 7 -/
def pleachlaw14_awake.f  : Option (Bool) := (frame_Put.f (⟨#[97]⟩ : ByteArray)).bind fun bt189 => (if bt189.1.size + 1 ≤ 9223372036854775807 then ((frame_Take.f (bt189.1 ++ (⟨#[120]⟩ : ByteArray))).bind fun bt191 => (if (bt189.1.size : Int) = 6 then (if bt189.2 = 0 then (if bt191.1.toList = ([97] : List UInt8) then (if bt191.2.1 = 6 then (if bt191.2.2 = 0 then ((frame_Size.f (([(⟨#[97]⟩ : ByteArray)] : List ByteArray))).bind fun t197 => (some (t197 == 6))) else (some false)) else (some false)) else (some false)) else (some false)) else (some false))) else (none))
set_option maxHeartbeats 8000000 in
set_option maxRecDepth 100000 in
theorem pleachlaw14_awake.calls  (r : Bool) (w : World) (h : pleachlaw14_awake.f  = some r) (hT : M.tab 0 w) :
    Calls Tryd.prog 7 #[] w fun e w' => e = .returned (.bool r) ∧ Below w.heap.size w w' := by
  have HT := Aside0.mk hT
  clear hT
  have HB := Aside0.mk (Below.refl w.heap.size w)
  have H : ((frame_Put.f (⟨#[97]⟩ : ByteArray)).bind fun bt189 => (if bt189.1.size + 1 ≤ 9223372036854775807 then ((frame_Take.f (bt189.1 ++ (⟨#[120]⟩ : ByteArray))).bind fun bt191 => (if (bt189.1.size : Int) = 6 then (if bt189.2 = 0 then (if bt191.1.toList = ([97] : List UInt8) then (if bt191.2.1 = 6 then (if bt191.2.2 = 0 then ((frame_Size.f (([(⟨#[97]⟩ : ByteArray)] : List ByteArray))).bind fun t197 => (some (t197 == 6))) else (some false)) else (some false)) else (some false)) else (some false)) else (some false))) else (none))) = some r := h
  clear h
  replace H := Option.bind_eq_some_iff.mp H
  obtain ⟨⟨t189, t190⟩, A10, H⟩ := H
  replace H : (if t189.size + 1 ≤ 9223372036854775807 then ((frame_Take.f (t189 ++ (⟨#[120]⟩ : ByteArray))).bind fun bt191 => (if (t189.size : Int) = 6 then (if t190 = 0 then (if bt191.1.toList = ([97] : List UInt8) then (if bt191.2.1 = 6 then (if bt191.2.2 = 0 then ((frame_Size.f (([(⟨#[97]⟩ : ByteArray)] : List ByteArray))).bind fun t197 => (some (t197 == 6))) else (some false)) else (some false)) else (some false)) else (some false)) else (some false))) else (none)) = some r := H
  have A1 := Aside0.mk A10
  clear A10
  by_cases c2 : t189.size + 1 ≤ 9223372036854775807
  · rw [if_pos c2] at H
    have c2b0 := eq_true c2
    have c2b1 : decide (t189.size + 1 ≤ 9223372036854775807) = true := decide_eq_true c2
    try have c2b2 : (9223372036854775807 < t189.size + 1) = False := eq_false (Nat.not_lt.2 c2)
    replace H := Option.bind_eq_some_iff.mp H
    obtain ⟨⟨t191, t192, t193⟩, A30, H⟩ := H
    replace H : (if (t189.size : Int) = 6 then (if t190 = 0 then (if t191.toList = ([97] : List UInt8) then (if t192 = 6 then (if t193 = 0 then ((frame_Size.f (([(⟨#[97]⟩ : ByteArray)] : List ByteArray))).bind fun t197 => (some (t197 == 6))) else (some false)) else (some false)) else (some false)) else (some false)) else (some false)) = some r := H
    have A3 := Aside0.mk A30
    clear A30
    by_cases c4 : (t189.size : Int) = 6
    · rw [if_pos c4] at H
      have c4b0 : ((t189.size : Int) == 6) = true := beq_iff_eq.mpr c4
      have c4b1 : ((t189.size : Int) != 6) = false := bne_eq_false_iff_eq.mpr c4
      clear c4
      by_cases c5 : t190 = 0
      · rw [if_pos c5] at H
        have c5b0 : (t190 == 0) = true := beq_iff_eq.mpr c5
        have c5b1 : (t190 != 0) = false := bne_eq_false_iff_eq.mpr c5
        clear c5
        by_cases c6 : t191.toList = ([97] : List UInt8)
        · rw [if_pos c6] at H
          have c6b0 : (t191.toList == ([97] : List UInt8)) = true := beq_iff_eq.mpr c6
          have c6b1 : (t191.toList != ([97] : List UInt8)) = false := bne_eq_false_iff_eq.mpr c6
          clear c6
          by_cases c7 : t192 = 6
          · rw [if_pos c7] at H
            have c7b0 : (t192 == 6) = true := beq_iff_eq.mpr c7
            have c7b1 : (t192 != 6) = false := bne_eq_false_iff_eq.mpr c7
            clear c7
            by_cases c8 : t193 = 0
            · rw [if_pos c8] at H
              have c8b0 : (t193 == 0) = true := beq_iff_eq.mpr c8
              have c8b1 : (t193 != 0) = false := bne_eq_false_iff_eq.mpr c8
              clear c8
              obtain ⟨y194, hy194⟩ : ∃ y_ : List ByteArray, y_ = (([(⟨#[97]⟩ : ByteArray)] : List ByteArray)) := ⟨_, rfl⟩
              replace H : ((frame_Size.f y194).bind fun t197 => (some (t197 == 6))) = some r := by first | (rw [hy194]; with_reducible exact H) | (have H2_ := (Option.bind_some _ _).symm.trans H; rw [hy194]; with_reducible exact H2_) | (have H2_ := (Option.bind_some _ _).symm.trans H; with_reducible exact H2_) | with_reducible exact H | (rw [hy194]; exact H) | exact H
              have Ny194 := Aside0.mk hy194
              clear hy194
              replace H := Option.bind_eq_some_iff.mp H
              obtain ⟨t197, A90, H⟩ := H
              replace H : (some (t197 == 6)) = some r := H
              have A9 := Aside0.mk A90
              clear A90
              obtain rfl := Option.some.inj H
              go_enter Tryd.func7, Tryd.ntmps7
              go_wp2_with (first | ((with_reducible refine gate_callee (f := 11) rfl ?_); refine M.goes (some 7) Tryd.func11 #[.string (⟨#[97]⟩ : ByteArray)] rfl ?_; (with_reducible refine (frame_Put.calls (⟨#[97]⟩ : ByteArray) t189 t190 _ A1.out (hT := M.tab_up HT (M.up HB))).mono ?_); rintro e w10 ⟨rfl, hb⟩; refine ⟨_, rfl, ?_⟩; have n0_ := M.upS HB hb; clear HB; have HB := n0_; clear n0_; (try clear hb)) | ((with_reducible refine gate_callee (f := 18) rfl ?_); refine M.goes (some 13) Tryd.func18 #[.string (t189 ++ (⟨#[120]⟩ : ByteArray))] rfl ?_; (with_reducible refine (frame_Take.calls (t189 ++ (⟨#[120]⟩ : ByteArray)) t191 t192 t193 _ A3.out (hT := M.tab_up HT (M.up HB))).mono ?_); rintro e w11 ⟨rfl, hb⟩; refine ⟨_, rfl, ?_⟩; have n0_ := M.upS HB hb; clear HB; have HB := n0_; clear n0_; (try clear hb)) | ((with_reducible refine gate_dst (N := 37) rfl ?_); (try (refine gate_guard (by rfl) ?_; dsimp only)); refine Kd.R_lit Kd.string _ 9 ?hg (N := 37) ?hd (xs := ([(⟨#[97]⟩ : ByteArray)] : List ByteArray)) (inner := [.string (⟨#[97]⟩ : ByteArray)]) (ok := fun _ => True) (okp := fun _ => True) ?hr ?hp (fun _ hk => hk) trivial (Below.refl _ _) (Nat.le_refl _) (by simp) ?_; (case hd => rfl); (case hg => rfl); (case hr => first | (go_simp; done) | (go_simp; rfl)); (case hp => exact (Reps.one (show Kd.M Kd.string _ _ _ (⟨#[97]⟩ : ByteArray) [.string (⟨#[97]⟩ : ByteArray)] from rfl) (Reps.none _ _))); intro v195 w12 ho13 hb hg_ hnew_; clear hg_ hnew_; (first | rw [← Ny194.out] at ho13 | (simp only [Int.reduceToNat] at ho13; rw [← Ny194.out] at ho13)); have n0_ := Aside0.mk (Kd.R_lower ho13 (below_size (M.up HB))); have n1_ := M.upS HB hb; clear HB; have HO196 := n0_; have HB := n1_; clear n0_ n1_; clear hb ho13; obtain ⟨Ao14, co14, eo14⟩ := Kd.R_slice HO196.out; subst eo14) | (go_at_call 14; (with_reducible refine (frame_Size.calls _ _ y194 t197 _ ?side1 ?side2 A9.out).mono ?_); (case side1 => repeat (first | exact (Kd.R_reads' HO196.out).2.2 | (with_reducible refine Kd.C_alloc ?_ _) | (with_reducible refine Kd.C_drewN ?_ _) | (with_reducible refine Kd.C_drew ?_))); (case side2 => exact (Kd.R_reads' HO196.out).2.1); rintro e w15 ⟨rfl, hb⟩; have n0_ := M.roB HO196 hb; have n1_ := M.upS HB hb; clear HO196 HB; have HO196 := n0_; have HB := n1_; clear n0_ n1_; (try clear hb); (try clear hb2); (try clear hk); (try clear hi)))
              go_ret
              exact M.fin (M.up HB)
            · rw [if_neg c8] at H
              have c8b0 : (t193 == 0) = false := beq_eq_false_iff_ne.mpr c8
              have c8b1 : (t193 != 0) = true := bne_iff_ne.mpr c8
              obtain rfl := Option.some.inj H
              go_enter Tryd.func7, Tryd.ntmps7
              go_wp2_with (first | ((with_reducible refine gate_callee (f := 11) rfl ?_); refine M.goes (some 7) Tryd.func11 #[.string (⟨#[97]⟩ : ByteArray)] rfl ?_; (with_reducible refine (frame_Put.calls (⟨#[97]⟩ : ByteArray) t189 t190 _ A1.out (hT := M.tab_up HT (M.up HB))).mono ?_); rintro e w16 ⟨rfl, hb⟩; refine ⟨_, rfl, ?_⟩; have n0_ := M.upS HB hb; clear HB; have HB := n0_; clear n0_; (try clear hb)) | ((with_reducible refine gate_callee (f := 18) rfl ?_); refine M.goes (some 13) Tryd.func18 #[.string (t189 ++ (⟨#[120]⟩ : ByteArray))] rfl ?_; (with_reducible refine (frame_Take.calls (t189 ++ (⟨#[120]⟩ : ByteArray)) t191 t192 t193 _ A3.out (hT := M.tab_up HT (M.up HB))).mono ?_); rintro e w17 ⟨rfl, hb⟩; refine ⟨_, rfl, ?_⟩; have n0_ := M.upS HB hb; clear HB; have HB := n0_; clear n0_; (try clear hb)))
              go_ret
              exact M.fin (M.up HB)
          · rw [if_neg c7] at H
            have c7b0 : (t192 == 6) = false := beq_eq_false_iff_ne.mpr c7
            have c7b1 : (t192 != 6) = true := bne_iff_ne.mpr c7
            obtain rfl := Option.some.inj H
            go_enter Tryd.func7, Tryd.ntmps7
            go_wp2_with (first | ((with_reducible refine gate_callee (f := 11) rfl ?_); refine M.goes (some 7) Tryd.func11 #[.string (⟨#[97]⟩ : ByteArray)] rfl ?_; (with_reducible refine (frame_Put.calls (⟨#[97]⟩ : ByteArray) t189 t190 _ A1.out (hT := M.tab_up HT (M.up HB))).mono ?_); rintro e w18 ⟨rfl, hb⟩; refine ⟨_, rfl, ?_⟩; have n0_ := M.upS HB hb; clear HB; have HB := n0_; clear n0_; (try clear hb)) | ((with_reducible refine gate_callee (f := 18) rfl ?_); refine M.goes (some 13) Tryd.func18 #[.string (t189 ++ (⟨#[120]⟩ : ByteArray))] rfl ?_; (with_reducible refine (frame_Take.calls (t189 ++ (⟨#[120]⟩ : ByteArray)) t191 t192 t193 _ A3.out (hT := M.tab_up HT (M.up HB))).mono ?_); rintro e w19 ⟨rfl, hb⟩; refine ⟨_, rfl, ?_⟩; have n0_ := M.upS HB hb; clear HB; have HB := n0_; clear n0_; (try clear hb)))
            go_ret
            exact M.fin (M.up HB)
        · rw [if_neg c6] at H
          have c6b0 : (t191.toList == ([97] : List UInt8)) = false := beq_eq_false_iff_ne.mpr c6
          have c6b1 : (t191.toList != ([97] : List UInt8)) = true := bne_iff_ne.mpr c6
          obtain rfl := Option.some.inj H
          go_enter Tryd.func7, Tryd.ntmps7
          go_wp2_with (first | ((with_reducible refine gate_callee (f := 11) rfl ?_); refine M.goes (some 7) Tryd.func11 #[.string (⟨#[97]⟩ : ByteArray)] rfl ?_; (with_reducible refine (frame_Put.calls (⟨#[97]⟩ : ByteArray) t189 t190 _ A1.out (hT := M.tab_up HT (M.up HB))).mono ?_); rintro e w20 ⟨rfl, hb⟩; refine ⟨_, rfl, ?_⟩; have n0_ := M.upS HB hb; clear HB; have HB := n0_; clear n0_; (try clear hb)) | ((with_reducible refine gate_callee (f := 18) rfl ?_); refine M.goes (some 13) Tryd.func18 #[.string (t189 ++ (⟨#[120]⟩ : ByteArray))] rfl ?_; (with_reducible refine (frame_Take.calls (t189 ++ (⟨#[120]⟩ : ByteArray)) t191 t192 t193 _ A3.out (hT := M.tab_up HT (M.up HB))).mono ?_); rintro e w21 ⟨rfl, hb⟩; refine ⟨_, rfl, ?_⟩; have n0_ := M.upS HB hb; clear HB; have HB := n0_; clear n0_; (try clear hb)))
          go_ret
          exact M.fin (M.up HB)
      · rw [if_neg c5] at H
        have c5b0 : (t190 == 0) = false := beq_eq_false_iff_ne.mpr c5
        have c5b1 : (t190 != 0) = true := bne_iff_ne.mpr c5
        obtain rfl := Option.some.inj H
        go_enter Tryd.func7, Tryd.ntmps7
        go_wp2_with (first | ((with_reducible refine gate_callee (f := 11) rfl ?_); refine M.goes (some 7) Tryd.func11 #[.string (⟨#[97]⟩ : ByteArray)] rfl ?_; (with_reducible refine (frame_Put.calls (⟨#[97]⟩ : ByteArray) t189 t190 _ A1.out (hT := M.tab_up HT (M.up HB))).mono ?_); rintro e w22 ⟨rfl, hb⟩; refine ⟨_, rfl, ?_⟩; have n0_ := M.upS HB hb; clear HB; have HB := n0_; clear n0_; (try clear hb)) | ((with_reducible refine gate_callee (f := 18) rfl ?_); refine M.goes (some 13) Tryd.func18 #[.string (t189 ++ (⟨#[120]⟩ : ByteArray))] rfl ?_; (with_reducible refine (frame_Take.calls (t189 ++ (⟨#[120]⟩ : ByteArray)) t191 t192 t193 _ A3.out (hT := M.tab_up HT (M.up HB))).mono ?_); rintro e w23 ⟨rfl, hb⟩; refine ⟨_, rfl, ?_⟩; have n0_ := M.upS HB hb; clear HB; have HB := n0_; clear n0_; (try clear hb)))
        go_ret
        exact M.fin (M.up HB)
    · rw [if_neg c4] at H
      have c4b0 : ((t189.size : Int) == 6) = false := beq_eq_false_iff_ne.mpr c4
      have c4b1 : ((t189.size : Int) != 6) = true := bne_iff_ne.mpr c4
      obtain rfl := Option.some.inj H
      go_enter Tryd.func7, Tryd.ntmps7
      go_wp2_with (first | ((with_reducible refine gate_callee (f := 11) rfl ?_); refine M.goes (some 7) Tryd.func11 #[.string (⟨#[97]⟩ : ByteArray)] rfl ?_; (with_reducible refine (frame_Put.calls (⟨#[97]⟩ : ByteArray) t189 t190 _ A1.out (hT := M.tab_up HT (M.up HB))).mono ?_); rintro e w24 ⟨rfl, hb⟩; refine ⟨_, rfl, ?_⟩; have n0_ := M.upS HB hb; clear HB; have HB := n0_; clear n0_; (try clear hb)) | ((with_reducible refine gate_callee (f := 18) rfl ?_); refine M.goes (some 13) Tryd.func18 #[.string (t189 ++ (⟨#[120]⟩ : ByteArray))] rfl ?_; (with_reducible refine (frame_Take.calls (t189 ++ (⟨#[120]⟩ : ByteArray)) t191 t192 t193 _ A3.out (hT := M.tab_up HT (M.up HB))).mono ?_); rintro e w25 ⟨rfl, hb⟩; refine ⟨_, rfl, ?_⟩; have n0_ := M.upS HB hb; clear HB; have HB := n0_; clear n0_; (try clear hb)))
      go_ret
      exact M.fin (M.up HB)
  · rw [if_neg c2] at H
    exact absurd H (by simp)

/-! ### frame_Row_p: function 8 -/
def frame_Row_p.l0 : Nat → ByteArray → List ByteArray → Int → Int → Option (ByteArray × Int)
  | 0, _, _, _, _ => none
  | k + 1, x4, x9, x10, x11 => if x11 < x10 then (if 0 ≤ x11 then (if x11 < (x9.length : Int) then ((frame_Put.f (rdOf ByteArray.empty x9 x11)).bind fun bt199 => (if bt199.2 = 0 then (if x4.size + bt199.1.size ≤ 9223372036854775807 then (frame_Row_p.l0 k (x4 ++ bt199.1) x9 x10 (wrap64 (x11 + 1))) else (none)) else (some ((⟨#[]⟩ : ByteArray), bt199.2)))) else (none)) else (none)) else (some (x4, 0))
def frame_Row_p.f (k : Nat) (l0 : List ByteArray) : Option (ByteArray × Int) := frame_Row_p.l0 k (⟨#[]⟩ : ByteArray) l0 (l0.length : Int) 0
theorem frame_Row_p.mono_l : ∀ k, (∀ y0 y1 y2 y3, LeO (frame_Row_p.l0 k y0 y1 y2 y3) (frame_Row_p.l0 (k + 1) y0 y1 y2 y3))
  | 0 => fun _ _ _ _ r h => by simp [frame_Row_p.l0] at h
  | k + 1 => by
    have ih0 := frame_Row_p.mono_l k
    · intro y0 y1 y2 y3
      unfold frame_Row_p.l0
      repeat' first
      | (with_reducible exact ih0 _ _ _ _)
      | (with_reducible exact LeO.refl _)
      | (with_reducible exact LeO.none _)
      | (with_reducible refine LeO.ite ?_ ?_)
      | (with_reducible refine LeO.bind ?_ (fun _ => ?_))
      | exact ih0 _ _ _ _
      | exact LeO.none _
      | refine LeO.ite ?_ ?_
      | refine LeO.bind ?_ (fun _ => ?_)
theorem frame_Row_p.mono : ∀ a0 k, LeO (frame_Row_p.f k a0) (frame_Row_p.f (k + 1) a0) := by
  intro a0 k
  have ih0 := frame_Row_p.mono_l k
  unfold frame_Row_p.f
  repeat' first
      | (with_reducible exact ih0 _ _ _ _)
      | (with_reducible exact LeO.refl _)
      | (with_reducible exact LeO.none _)
      | (with_reducible refine LeO.ite ?_ ?_)
      | (with_reducible refine LeO.bind ?_ (fun _ => ?_))
      | exact ih0 _ _ _ _
      | exact LeO.none _
      | refine LeO.ite ?_ ?_
      | refine LeO.bind ?_ (fun _ => ?_)
set_option maxHeartbeats 8000000 in
set_option maxRecDepth 100000 in
theorem frame_Row_p.calls (k : Nat) (A0 : Option Addr) (c0 : Nat) (l0 : List ByteArray) (r1 : ByteArray) (r2 : Int) (w : World) (hr0 : Kd.C Kd.string w A0 l0.length l0) (hc0 : l0.length ≤ c0) (h : frame_Row_p.f k l0 = some (r1, r2)) (hT : M.tab 0 w) :
    Calls Tryd.prog 8 #[.slice A0 l0.length c0] w fun e w' => e = .returned (.tuple #[.string r1, .int .i64 r2]) ∧ Below w.heap.size w w' := by
  have HT := Aside0.mk hT
  clear hT
  have HR0 := Aside0.mk hr0
  have HC0 := Aside0.mk hc0
  clear hr0 hc0
  have HB := Aside0.mk (Below.refl w.heap.size w)
  have H : (frame_Row_p.l0 k (⟨#[]⟩ : ByteArray) l0 (l0.length : Int) 0) = some (r1, r2) := h
  clear h
  have H' := Aside0.mk H
  clear H
  go_enter Tryd.func8, Tryd.ntmps8
  go_wp2
  go_loopg [4, 11] k (fun kq v4 v11 w' => ∃ (x4_1 : ByteArray) (x11_1 : Int), v4 = .string x4_1 ∧ v11 = .int .i64 x11_1 ∧ Aside0 (frame_Row_p.l0 kq x4_1 l0 (l0.length : Int) x11_1 = some (r1, r2)) ∧ Aside0 (kq ≤ k) ∧ Aside0 (Below w.heap.size w w'))
  case atStart => exact ⟨((⟨#[]⟩ : ByteArray)), (0), (by first | rfl | (simp; done) | (simp [*]; done) | (simp [M.isEmpty_bne]; done)), (by first | rfl | (simp; done) | (simp [*]; done) | (simp [M.isEmpty_bne]; done)), H', ⟨Nat.le_refl _⟩, ⟨M.up HB⟩⟩
  case round =>
    clear H'
    obtain ⟨x4_1, x11_1, rfl, rfl, HA, HK1, HB⟩ := hrel
    cases gk with
    | zero => exact absurd HA.out (by simp [frame_Row_p.l0])
    | succ k1 =>
      have H := HA.out
      clear HA
      simp only [frame_Row_p.l0] at H
      by_cases c2 : x11_1 < (l0.length : Int)
      · rw [if_pos c2] at H
        have c2b0 : decide (x11_1 < (l0.length : Int)) = true := decide_eq_true c2
        clear c2
        by_cases c3 : 0 ≤ x11_1
        · rw [if_pos c3] at H
          have c3b0 : decide (0 ≤ x11_1) = true := decide_eq_true c3
          clear c3
          by_cases c4 : x11_1 < (l0.length : Int)
          · rw [if_pos c4] at H
            have c4b0 : decide (x11_1 < (l0.length : Int)) = true := decide_eq_true c4
            clear c4
            replace H := Option.bind_eq_some_iff.mp H
            obtain ⟨⟨t199, t200⟩, A50, H⟩ := H
            replace H : (if t200 = 0 then (if x4_1.size + t199.size ≤ 9223372036854775807 then (frame_Row_p.l0 k1 (x4_1 ++ t199) l0 (l0.length : Int) (wrap64 (x11_1 + 1))) else (none)) else (some ((⟨#[]⟩ : ByteArray), t200))) = some (r1, r2) := H
            have A5 := Aside0.mk A50
            clear A50
            by_cases c6 : t200 = 0
            · rw [if_pos c6] at H
              have c6b0 : (t200 == 0) = true := beq_iff_eq.mpr c6
              have c6b1 : (t200 != 0) = false := bne_eq_false_iff_eq.mpr c6
              clear c6
              by_cases c7 : x4_1.size + t199.size ≤ 9223372036854775807
              · rw [if_pos c7] at H
                have c7b0 := eq_true c7
                have c7b1 : decide (x4_1.size + t199.size ≤ 9223372036854775807) = true := decide_eq_true c7
                try have c7b2 : (9223372036854775807 < x4_1.size + t199.size) = False := eq_false (Nat.not_lt.2 c7)
                have H' := Aside0.mk H
                clear H
                have p198 : 0 ≤ (x11_1 : Int) := of_decide_eq_true (by first | (with_reducible assumption) | assumption)
                have q198 : x11_1 < (l0.length : Int) := of_decide_eq_true (by first | (with_reducible assumption) | assumption)
                obtain ⟨ad198, e198, hx198_0⟩ := Kd.at_string HR0.out x11_1 p198 q198
                cases e198
                replace hx198_0 := (HB.out.cell (World.block_lt_of_cell? w _ hx198_0)).trans hx198_0
                replace p198 := eq_true p198
                replace q198 := eq_true q198
                go_wp2_with (first | ((with_reducible refine gate_callee (f := 11) rfl ?_); refine M.goes (some 17) Tryd.func11 #[.string (rdOf ByteArray.empty l0 x11_1)] rfl ?_; (with_reducible refine (frame_Put.calls (rdOf ByteArray.empty l0 x11_1) t199 t200 _ A5.out (hT := M.tab_up HT (M.up HB))).mono ?_); rintro e w8 ⟨rfl, hb⟩; refine ⟨_, rfl, ?_⟩; have n0_ := M.upS HB hb; clear HB; have HB := n0_; clear n0_; (try clear hb)))
                go_roundg k1
                case measure => have := HK1.out; omega
                case rel => exact ⟨(x4_1 ++ t199), (wrap64 (x11_1 + 1)), (by first | rfl | (simp; done) | (simp [*]; done) | (simp [M.isEmpty_bne]; done)), (by first | rfl | (simp; done) | (simp [*]; done) | (simp [M.isEmpty_bne]; done)), H', ⟨by have := HK1.out; omega⟩, ⟨M.up HB⟩⟩
              · rw [if_neg c7] at H
                exact absurd H (by simp)
            · rw [if_neg c6] at H
              have c6b0 : (t200 == 0) = false := beq_eq_false_iff_ne.mpr c6
              have c6b1 : (t200 != 0) = true := bne_iff_ne.mpr c6
              simp only [Option.some.injEq, Prod.mk.injEq] at H
              obtain ⟨rfl, rfl⟩ := H
              have p198 : 0 ≤ (x11_1 : Int) := of_decide_eq_true (by first | (with_reducible assumption) | assumption)
              have q198 : x11_1 < (l0.length : Int) := of_decide_eq_true (by first | (with_reducible assumption) | assumption)
              obtain ⟨ad198, e198, hx198_0⟩ := Kd.at_string HR0.out x11_1 p198 q198
              cases e198
              replace hx198_0 := (HB.out.cell (World.block_lt_of_cell? w _ hx198_0)).trans hx198_0
              replace p198 := eq_true p198
              replace q198 := eq_true q198
              go_wp2_with (first | ((with_reducible refine gate_callee (f := 11) rfl ?_); refine M.goes (some 17) Tryd.func11 #[.string (rdOf ByteArray.empty l0 x11_1)] rfl ?_; (with_reducible refine (frame_Put.calls (rdOf ByteArray.empty l0 x11_1) t199 t200 _ A5.out (hT := M.tab_up HT (M.up HB))).mono ?_); rintro e w9 ⟨rfl, hb⟩; refine ⟨_, rfl, ?_⟩; have n0_ := M.upS HB hb; clear HB; have HB := n0_; clear n0_; (try clear hb)))
              go_ret2
              exact M.fin (M.up HB)
          · rw [if_neg c4] at H
            exact absurd H (by simp)
        · rw [if_neg c3] at H
          exact absurd H (by simp)
      · rw [if_neg c2] at H
        have c2b0 : decide (x11_1 < (l0.length : Int)) = false := decide_eq_false c2
        clear c2
        simp only [Option.some.injEq, Prod.mk.injEq] at H
        obtain ⟨rfl, rfl⟩ := H
        go_wp2
        go_ret2
        exact M.fin (M.up HB)

-- this session's own plain form
def frame_Row.f (l0 : List ByteArray) : Option (ByteArray × Int) := if l0.length ≤ 1000 then some (M.frow l0) else none
theorem frame_Row.loop (l : List ByteArray) (hl : l.length ≤ 1000) (d : Nat) : ∀ (i : Nat) (acc : List UInt8), i + d = l.length → acc.length ≤ i * 100000 →
    frame_Row_p.l0 (d + 1) (M.sb acc) l (l.length : Int) (i : Int) = some (M.frowF acc (l.drop i)) := by
  induction d with
  | zero =>
    intro i acc hi ha
    rw [frame_Row_p.l0, if_neg (by omega), List.drop_of_length_le (by omega)]; rfl
  | succ d ih =>
    intro i acc hi ha
    have hlt : i < l.length := by omega
    have hrd : rdOf ByteArray.empty l (i : Int) = l[i] := by simp [rdOf, List.getD, hlt]
    rw [List.drop_eq_getElem_cons hlt]
    unfold frame_Row_p.l0 frame_Put.f
    rw [if_pos (by omega), if_pos (by omega), if_pos (by omega), hrd, Option.bind_some]
    generalize l[i] = s
    rw [M.frowF]
    by_cases hw : M.fwrong s = 0
    · have hz : s.size ≤ 65536 := by
        unfold M.fwrong at hw
        split at hw
        · cases hw
        · split at hw
          · cases hw
          · omega
      have hf := M.frm_length s
      have hv := M.vb_le (s.size + 4) (by omega)
      rw [if_pos hw, if_pos hw]
      simp only
      rw [if_pos trivial, if_pos (by rw [M.size_sb, M.size_sb]; omega), ← M.sb_append, M.wrap64_id (by omega) (by omega), show (i : Int) + 1 = ((i + 1 : Nat) : Int) from by omega]
      exact ih (i + 1) _ (by omega) (by rw [List.length_append]; omega)
    · rw [if_neg hw, if_neg hw]
      simp only
      rw [if_neg hw]; rfl
theorem frame_Row.ev (l : List ByteArray) (r : ByteArray × Int) (h : frame_Row.f l = some r) : ∃ k, frame_Row_p.f k l = some r := by
  unfold frame_Row.f at h
  split at h
  case isFalse => cases h
  case isTrue hh =>
    refine ⟨l.length + 1, ?_⟩
    rw [← h]
    have := frame_Row.loop l hh l.length 0 [] (by omega) (by simp)
    rw [List.drop_zero] at this
    exact this
theorem frame_Row.calls (A0 : Option Addr) (c0 : Nat) (l0 : List ByteArray) (r1 : ByteArray) (r2 : Int) (w : World) (hr0 : Kd.C Kd.string w A0 l0.length l0) (hc0 : l0.length ≤ c0) (h : frame_Row.f l0 = some (r1, r2)) (hT : M.tab 0 w) :
    Calls Tryd.prog 8 #[.slice A0 l0.length c0] w fun e w' => e = .returned (.tuple #[.string r1, .int .i64 r2]) ∧ Below w.heap.size w w' := by
  have HT := Aside0.mk hT
  clear hT
  obtain ⟨k, hk⟩ := frame_Row.ev _ _ h
  exact frame_Row_p.calls (hT := HT.out) (k := k) (w := w) (h := hk) (hr0 := hr0) (hc0 := hc0)

/-! ### frame_Whole_p: function 21 -/
def frame_Whole_p.l0 : Nat → ByteArray → List ByteArray → Int → Option (List ByteArray × Int)
  | 0, _, _, _ => none
  | k + 1, x0, x4, x5 => if x5 < (x0.size : Int) then (if 0 ≤ x5 then (if x5 ≤ (x0.size : Int) then ((frame_Take.f (x0.extract (x5 : Int).toNat x0.size)).bind fun bt201 => (if bt201.2.2 = 0 then (if x4.length < 8796093022208 then (frame_Whole_p.l0 k x0 (x4 ++ [bt201.1]) (wrap64 (x5 + bt201.2.1))) else (none)) else (some (x4, x5)))) else (none)) else (none)) else (some (x4, x5))
def frame_Whole_p.f (k : Nat) (a0 : ByteArray) : Option (List ByteArray × Int) := frame_Whole_p.l0 k a0 ([] : List ByteArray) 0
theorem frame_Whole_p.mono_l : ∀ k, (∀ y0 y1 y2, LeO (frame_Whole_p.l0 k y0 y1 y2) (frame_Whole_p.l0 (k + 1) y0 y1 y2))
  | 0 => fun _ _ _ r h => by simp [frame_Whole_p.l0] at h
  | k + 1 => by
    have ih0 := frame_Whole_p.mono_l k
    · intro y0 y1 y2
      unfold frame_Whole_p.l0
      repeat' first
      | (with_reducible exact ih0 _ _ _)
      | (with_reducible exact LeO.refl _)
      | (with_reducible exact LeO.none _)
      | (with_reducible refine LeO.ite ?_ ?_)
      | (with_reducible refine LeO.bind ?_ (fun _ => ?_))
      | exact ih0 _ _ _
      | exact LeO.none _
      | refine LeO.ite ?_ ?_
      | refine LeO.bind ?_ (fun _ => ?_)
theorem frame_Whole_p.mono : ∀ a0 k, LeO (frame_Whole_p.f k a0) (frame_Whole_p.f (k + 1) a0) := by
  intro a0 k
  have ih0 := frame_Whole_p.mono_l k
  unfold frame_Whole_p.f
  repeat' first
      | (with_reducible exact ih0 _ _ _)
      | (with_reducible exact LeO.refl _)
      | (with_reducible exact LeO.none _)
      | (with_reducible refine LeO.ite ?_ ?_)
      | (with_reducible refine LeO.bind ?_ (fun _ => ?_))
      | exact ih0 _ _ _
      | exact LeO.none _
      | refine LeO.ite ?_ ?_
      | refine LeO.bind ?_ (fun _ => ?_)
set_option maxHeartbeats 8000000 in
set_option maxRecDepth 100000 in
theorem frame_Whole_p.calls (k : Nat) (a0 : ByteArray) (r1 : List ByteArray) (r2 : Int) (w : World) (h : frame_Whole_p.f k a0 = some (r1, r2)) (hT : M.tab 0 w) :
    Calls Tryd.prog 21 #[.string a0] w fun e w' => ∃ v0_ : Value, e = .returned (.tuple #[v0_, .int .i64 r2]) ∧ Kd.R Kd.string 9 w' w.heap.size (fun _ => True) v0_ r1 ∧ Below w.heap.size w w' := by
  have HT := Aside0.mk hT
  clear hT
  have HB := Aside0.mk (Below.refl w.heap.size w)
  have H : (frame_Whole_p.l0 k a0 ([] : List ByteArray) 0) = some (r1, r2) := h
  clear h
  have H' := Aside0.mk H
  clear H
  go_enter Tryd.func21, Tryd.ntmps21
  go_wp2
  go_loopg [4, 5] k (fun kq v4 v5 w' => ∃ (x4_1 : List ByteArray) (x5_1 : Int), v5 = .int .i64 x5_1 ∧ Aside0 (frame_Whole_p.l0 kq a0 x4_1 x5_1 = some (r1, r2)) ∧ Aside0 (kq ≤ k) ∧ Aside0 (Kd.R Kd.string 9 w' w.heap.size (fun _ => True) v4 x4_1) ∧ Aside0 (Below w.heap.size w w'))
  case atStart => exact ⟨(([] : List ByteArray)), (0), (by first | rfl | (simp; done) | (simp [*]; done) | (simp [M.isEmpty_bne]; done)), H', ⟨Nat.le_refl _⟩, ⟨by first | exact Kd.R_nil _ _ _ _ _ | exact Kd.N_nil _ _ _ _ _ | exact Kd.V_nil _ _ _ _ _ | exact Kd.Q_nil _ _ _ _ _ | exact Kd.S_nil _ _ _ _ _⟩, ⟨M.up HB⟩⟩
  case round =>
    clear H'
    obtain ⟨x4_1, x5_1, rfl, HA, HK1, zai, HB⟩ := hrel
    cases gk with
    | zero => exact absurd HA.out (by simp [frame_Whole_p.l0])
    | succ k1 =>
      have H := HA.out
      clear HA
      simp only [frame_Whole_p.l0] at H
      by_cases c2 : x5_1 < (a0.size : Int)
      · rw [if_pos c2] at H
        have c2b0 : decide (x5_1 < (a0.size : Int)) = true := decide_eq_true c2
        clear c2
        by_cases c3 : 0 ≤ x5_1
        · rw [if_pos c3] at H
          have c3b0 := eq_true c3
          have c3b1 : decide (0 ≤ x5_1) = true := decide_eq_true c3
          clear c3
          by_cases c4 : x5_1 ≤ (a0.size : Int)
          · rw [if_pos c4] at H
            have c4b0 := eq_true c4
            have c4b1 : decide (x5_1 ≤ (a0.size : Int)) = true := decide_eq_true c4
            clear c4
            replace H := Option.bind_eq_some_iff.mp H
            obtain ⟨⟨t201, t202, t203⟩, A50, H⟩ := H
            replace H : (if t203 = 0 then (if x4_1.length < 8796093022208 then (frame_Whole_p.l0 k1 a0 (x4_1 ++ [t201]) (wrap64 (x5_1 + t202))) else (none)) else (some (x4_1, x5_1))) = some (r1, r2) := H
            have A5 := Aside0.mk A50
            clear A50
            by_cases c6 : t203 = 0
            · rw [if_pos c6] at H
              have c6b0 : (t203 == 0) = true := beq_iff_eq.mpr c6
              have c6b1 : (t203 != 0) = false := bne_eq_false_iff_eq.mpr c6
              clear c6
              by_cases c7 : x4_1.length < 8796093022208
              · rw [if_pos c7] at H
                have LMc7 := Aside0.mk c7
                clear c7
                obtain ⟨y204, hy204⟩ : ∃ y_ : List ByteArray, y_ = (x4_1 ++ [t201]) := ⟨_, rfl⟩
                replace H : (frame_Whole_p.l0 k1 a0 y204 (wrap64 (x5_1 + t202))) = some (r1, r2) := by first | (rw [hy204]; with_reducible exact H) | (have H2_ := (Option.bind_some _ _).symm.trans H; rw [hy204]; with_reducible exact H2_) | (have H2_ := (Option.bind_some _ _).symm.trans H; with_reducible exact H2_) | with_reducible exact H | (rw [hy204]; exact H) | exact H
                have Ny204 := Aside0.mk hy204
                clear hy204
                have H' := Aside0.mk H
                clear H
                go_wp2_with (first | ((with_reducible refine gate_callee (f := 18) rfl ?_); refine M.goes (some 17) Tryd.func18 #[.string (a0.extract (x5_1 : Int).toNat a0.size)] rfl ?_; (with_reducible refine (frame_Take.calls (a0.extract (x5_1 : Int).toNat a0.size) t201 t202 t203 _ A5.out (hT := M.tab_up HT (M.up HB))).mono ?_); rintro e w8 ⟨rfl, hb⟩; refine ⟨_, rfl, ?_⟩; have n0_ := M.roB zai hb; have n1_ := M.upS HB hb; clear zai HB; have zai := n0_; have HB := n1_; clear n0_ n1_; (try clear hb)) | ((with_reducible refine gate_builtin (b := .append) (xs := #[.tmp 23, .tmp 25]) rfl ?_); at_builtin; refine Kd.R_append Kd.string (w0 := w) w.heap.size rfl (.tmp 23) (.tmp 25) 22 9 (.string ⟨#[]⟩) 16 rfl Tryd.underlying22 info9 rfl (by decide) (by omega) u4 x4_1 t201 [.string t201] (fun _ => True) (fun _ => False) rfl rfl ?aP (fun _ hk => hk.elim) ?aF ?aO ?aB ?aS ?aL ?_; (case aP => exact rfl); (case aB => exact (M.up HB)); (case aF => exact (fun _ _ => trivial)); (case aO => exact (M.ro zai)); (case aS => exact (below_size (M.up HB))); (case aL => have := LMc7.out; omega); intro v205 w9 ho hb hg hat; rw [← Ny204.out] at ho; have n0_ := Aside0.mk (hb); have n1_ := Aside0.mk (ho); clear HB zai; have HB := n0_; have HO206 := n1_; clear n0_ n1_; clear ho hb hg hat))
                go_roundg k1
                case measure => have := HK1.out; omega
                case rel => exact ⟨(y204), (wrap64 (x5_1 + t202)), (by first | rfl | (simp; done) | (simp [*]; done) | (simp [M.isEmpty_bne]; done)), H', ⟨by have := HK1.out; omega⟩, ⟨by (with_reducible repeat (first | apply Kd.R_alloc | apply Kd.R_drewN | apply Kd.R_drew)); exact HO206.out⟩, ⟨M.up HB⟩⟩
              · rw [if_neg c7] at H
                exact absurd H (by simp)
            · rw [if_neg c6] at H
              have c6b0 : (t203 == 0) = false := beq_eq_false_iff_ne.mpr c6
              have c6b1 : (t203 != 0) = true := bne_iff_ne.mpr c6
              simp only [Option.some.injEq, Prod.mk.injEq] at H
              obtain ⟨rfl, rfl⟩ := H
              go_wp2_with (first | ((with_reducible refine gate_callee (f := 18) rfl ?_); refine M.goes (some 17) Tryd.func18 #[.string (a0.extract (x5_1 : Int).toNat a0.size)] rfl ?_; (with_reducible refine (frame_Take.calls (a0.extract (x5_1 : Int).toNat a0.size) t201 t202 t203 _ A5.out (hT := M.tab_up HT (M.up HB))).mono ?_); rintro e w10 ⟨rfl, hb⟩; refine ⟨_, rfl, ?_⟩; have n0_ := M.roB zai hb; have n1_ := M.upS HB hb; clear zai HB; have zai := n0_; have HB := n1_; clear n0_ n1_; (try clear hb)))
              go_ret2
              exact ⟨_, by first | rfl | (simp [errW_none, errW_some] <;> rfl) | (simp [*, errW_none, errW_some] <;> rfl), by (with_reducible repeat (first | apply Kd.R_alloc | apply Kd.R_drewN | apply Kd.R_drew)); exact zai.out, M.up HB⟩
          · rw [if_neg c4] at H
            exact absurd H (by simp)
        · rw [if_neg c3] at H
          exact absurd H (by simp)
      · rw [if_neg c2] at H
        have c2b0 : decide (x5_1 < (a0.size : Int)) = false := decide_eq_false c2
        clear c2
        simp only [Option.some.injEq, Prod.mk.injEq] at H
        obtain ⟨rfl, rfl⟩ := H
        go_wp2
        go_ret2
        exact ⟨_, by first | rfl | (simp [errW_none, errW_some] <;> rfl) | (simp [*, errW_none, errW_some] <;> rfl), by (with_reducible repeat (first | apply Kd.R_alloc | apply Kd.R_drewN | apply Kd.R_drew)); exact zai.out, M.up HB⟩

-- this session's own plain form
def frame_Whole.f (a0 : ByteArray) : Option (List ByteArray × Int) := if a0.size ≤ 1000000000000 then some ((M.fwhole a0).1, ((M.fwhole a0).2 : Int)) else none
theorem frame_Whole.loop (s : ByteArray) (hs : s.size ≤ 1000000000000) (d : Nat) : ∀ (at_ : Nat) (out : List ByteArray), s.size < at_ + d → at_ ≤ s.size → out.length ≤ at_ →
    frame_Whole_p.l0 d s out (at_ : Int) = some (out ++ (M.fwholeF d s at_).1, ((M.fwholeF d s at_).2 : Int)) := by
  induction d with
  | zero => intro at_ out h1 h2; omega
  | succ d ih =>
    intro at_ out h1 h2 h3
    have hz : (s.extract at_ s.size).size = s.size - at_ := by rw [← M.bs_length, M.bs_drop, List.length_drop, M.bs_length]
    unfold frame_Whole_p.l0 frame_Take.f
    rw [M.fwholeF]
    by_cases hlt : at_ < s.size
    · rw [if_pos (by omega), if_pos hlt, if_pos (by omega), if_pos (by omega), Int.toNat_natCast, if_pos (by omega), Option.bind_some]
      by_cases he : (M.ftake (s.extract at_ s.size)).2.2 = 0
      · have hr := M.ftake_range (s.extract at_ s.size) (by omega) he
        rw [hz] at hr
        rw [if_pos he, if_pos he, if_pos (by omega), M.wrap64_id (by omega) (by omega), show (at_ : Int) + (M.ftake (s.extract at_ s.size)).2.1 = ((at_ + (M.ftake (s.extract at_ s.size)).2.1.toNat : Nat) : Int) from by omega]
        rw [ih _ _ (by omega) (by omega) (by rw [List.length_append]; simp; omega)]
        simp
      · rw [if_neg he, if_neg he]; simp
    · rw [if_neg (by omega), if_neg hlt]; simp
theorem frame_Whole.ev (s : ByteArray) (r : List ByteArray × Int) (h : frame_Whole.f s = some r) : ∃ k, frame_Whole_p.f k s = some r := by
  unfold frame_Whole.f at h
  split at h
  case isFalse => cases h
  case isTrue hh =>
    refine ⟨s.size + 1, ?_⟩
    rw [← h]
    have := frame_Whole.loop s hh (s.size + 1) 0 [] (by omega) (by omega) (by simp)
    rw [List.nil_append] at this
    exact this
theorem frame_Whole.calls (a0 : ByteArray) (r1 : List ByteArray) (r2 : Int) (w : World) (h : frame_Whole.f a0 = some (r1, r2)) (hT : M.tab 0 w) :
    Calls Tryd.prog 21 #[.string a0] w fun e w' => ∃ v0_ : Value, e = .returned (.tuple #[v0_, .int .i64 r2]) ∧ Kd.R Kd.string 9 w' w.heap.size (fun _ => True) v0_ r1 ∧ Below w.heap.size w w' := by
  have HT := Aside0.mk hT
  clear hT
  obtain ⟨k, hk⟩ := frame_Whole.ev _ _ h
  exact frame_Whole_p.calls (hT := HT.out) (k := k) (w := w) (h := hk)

/-! ### frame_All_p: function 23 -/
def frame_All_p.f (a0 : ByteArray) : Option (List ByteArray × Int) := (frame_Whole.f a0).bind fun bt207 => (if bt207.2 < (a0.size : Int) then (some (([] : List ByteArray), 3)) else (some (bt207.1, 0)))
set_option maxHeartbeats 8000000 in
set_option maxRecDepth 100000 in
theorem frame_All_p.calls (a0 : ByteArray) (r1 : List ByteArray) (r2 : Int) (w : World) (h : frame_All_p.f a0 = some (r1, r2)) (hT : M.tab 0 w) :
    Calls Tryd.prog 23 #[.string a0] w fun e w' => ∃ v0_ : Value, e = .returned (.tuple #[v0_, .int .i64 r2]) ∧ Kd.R Kd.string 9 w' w.heap.size (fun _ => True) v0_ r1 ∧ Below w.heap.size w w' := by
  have HT := Aside0.mk hT
  clear hT
  have HB := Aside0.mk (Below.refl w.heap.size w)
  have H : ((frame_Whole.f a0).bind fun bt207 => (if bt207.2 < (a0.size : Int) then (some (([] : List ByteArray), 3)) else (some (bt207.1, 0)))) = some (r1, r2) := h
  clear h
  replace H := Option.bind_eq_some_iff.mp H
  obtain ⟨⟨t207, t208⟩, A20, H⟩ := H
  replace H : (if t208 < (a0.size : Int) then (some (([] : List ByteArray), 3)) else (some (t207, 0))) = some (r1, r2) := H
  have A2 := Aside0.mk A20
  clear A20
  by_cases c3 : t208 < (a0.size : Int)
  · rw [if_pos c3] at H
    have c3b0 : decide (t208 < (a0.size : Int)) = true := decide_eq_true c3
    clear c3
    simp only [Option.some.injEq, Prod.mk.injEq] at H
    obtain ⟨rfl, rfl⟩ := H
    go_enter Tryd.func23, Tryd.ntmps23
    go_wp2_with (first | ((with_reducible refine gate_callee (f := 21) rfl ?_); refine M.goes (some 8) Tryd.func21 #[.string a0] rfl ?_; (with_reducible refine (frame_Whole.calls a0 t207 t208 _ A2.out (hT := M.tab_up HT (M.up HB))).mono ?_); rintro e w4 ⟨v209, rfl, ho0, hb⟩; refine ⟨_, rfl, ?_⟩; have n0_ := Aside0.mk (Kd.R_lower ho0 (below_size (M.up HB))); have n1_ := M.upS HB hb; clear HB; have HO210 := n0_; have HB := n1_; clear n0_ n1_; (try clear hb); (try clear ho0)))
    go_ret2
    exact ⟨_, by first | rfl | (simp [errW_none, errW_some] <;> rfl) | (simp [*, errW_none, errW_some] <;> rfl), by first | exact Kd.R_nil _ _ _ _ _ | exact Kd.N_nil _ _ _ _ _ | exact Kd.V_nil _ _ _ _ _ | exact Kd.Q_nil _ _ _ _ _ | exact Kd.S_nil _ _ _ _ _, M.up HB⟩
  · rw [if_neg c3] at H
    have c3b0 : decide (t208 < (a0.size : Int)) = false := decide_eq_false c3
    clear c3
    simp only [Option.some.injEq, Prod.mk.injEq] at H
    obtain ⟨rfl, rfl⟩ := H
    go_enter Tryd.func23, Tryd.ntmps23
    go_wp2_with (first | ((with_reducible refine gate_callee (f := 21) rfl ?_); refine M.goes (some 8) Tryd.func21 #[.string a0] rfl ?_; (with_reducible refine (frame_Whole.calls a0 t207 t208 _ A2.out (hT := M.tab_up HT (M.up HB))).mono ?_); rintro e w5 ⟨v209, rfl, ho0, hb⟩; refine ⟨_, rfl, ?_⟩; have n0_ := Aside0.mk (Kd.R_lower ho0 (below_size (M.up HB))); have n1_ := M.upS HB hb; clear HB; have HO210 := n0_; have HB := n1_; clear n0_ n1_; (try clear hb); (try clear ho0)))
    go_ret2
    exact ⟨_, by first | rfl | (simp [errW_none, errW_some] <;> rfl) | (simp [*, errW_none, errW_some] <;> rfl), by (with_reducible repeat (first | apply Kd.R_alloc | apply Kd.R_drewN | apply Kd.R_drew)); exact HO210.out, M.up HB⟩

-- this session's own plain form
def frame_All.f (a0 : ByteArray) : Option (List ByteArray × Int) := if a0.size ≤ 1000000000000 then some (if (M.fwhole a0).2 < a0.size then ([], 3) else ((M.fwhole a0).1, 0)) else none
theorem frame_All.ev (s : ByteArray) (r : List ByteArray × Int) (h : frame_All.f s = some r) : frame_All_p.f s = some r := by
  unfold frame_All.f at h
  split at h
  case isFalse => cases h
  case isTrue hh =>
    rw [← h]
    unfold frame_All_p.f frame_Whole.f
    rw [if_pos hh, Option.bind_some]
    simp only
    by_cases hl : (M.fwhole s).2 < s.size
    · rw [if_pos (by omega), if_pos hl]
    · rw [if_neg (by omega), if_neg hl]
theorem frame_All.calls (a0 : ByteArray) (r1 : List ByteArray) (r2 : Int) (w : World) (h : frame_All.f a0 = some (r1, r2)) (hT : M.tab 0 w) :
    Calls Tryd.prog 23 #[.string a0] w fun e w' => ∃ v0_ : Value, e = .returned (.tuple #[v0_, .int .i64 r2]) ∧ Kd.R Kd.string 9 w' w.heap.size (fun _ => True) v0_ r1 ∧ Below w.heap.size w w' := by
  have HT := Aside0.mk hT
  clear hT
  exact frame_All_p.calls (hT := HT.out) (w := w) (h := frame_All.ev _ _ h)

end Go.Proofs.YtacjpkfpniolmaaDoor.EFrameBack
