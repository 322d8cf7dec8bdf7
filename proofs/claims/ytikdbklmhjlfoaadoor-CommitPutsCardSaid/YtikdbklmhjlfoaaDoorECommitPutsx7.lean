-- Written by this session's own program (wip/tools/ext.py) for this claim; Lean checks it.
import Derived.Test.YtikdbklmhjlfoaaDoorECommitPutsx0
import Derived.Test.YtikdbklmhjlfoaaDoorECommitPutsx1
import Derived.Test.YtikdbklmhjlfoaaDoorECommitPutsx6
namespace Go.Proofs.YtikdbklmhjlfoaaDoor.ECommitPuts
open Go.RowKit Go.Proofs.YtikdbklmhjlfoaaDoorW.PrintWords Go.Proofs.YtikdbklmhjlfoaaDoorW.PrintLast Go.Proofs.YtikdbklmhjlfoaaDoorW.PrintMore
attribute [local go_sem] M.run_leq M.run_gtr M.run_geq max2_int min2_int max_two min_two max_three min_three max_four min_four   -- for this text's walks alone
set_option linter.unusedVariables false
set_option linter.unusedSimpArgs false

/-! ### commit_Put_p: function 13 -/
def commit_Put_p.l0 : Nat → ByteArray → List ByteArray → Int → Int → Int → List ByteArray → ByteArray → ByteArray → Option (ByteArray × Int)
  | 0, _, _, _, _, _, _, _, _ => none
  | k + 1, x5, x25, x26, x27, zaa, zab, zac, zad => if x27 < x26 then (if 0 ≤ x27 then (if x27 < (x25.length : Int) then (if x5.size + (rdOf ByteArray.empty x25 x27).size ≤ 9223372036854775807 then (commit_Put_p.l0 k (x5 ++ (rdOf ByteArray.empty x25 x27)) x25 x26 (wrap64 (x27 + 1)) zaa zab zac zad) else (none)) else (none)) else (none)) else (if x5.size + zac.size ≤ 9223372036854775807 then ((scan_PutText.f zad).bind fun t197 => (if (x5 ++ zac).size + t197.size ≤ 9223372036854775807 then (some ((x5 ++ zac) ++ t197, 0)) else (none))) else (none))
def commit_Put_p.f (k : Nat) (a0_0 : Int) (l0_1 : List ByteArray) (a0_2 : ByteArray) (a0_3 : ByteArray) : Option (ByteArray × Int) := (commit_Check.f a0_0 l0_1 a0_2 a0_3).bind fun t190 => (if t190 = 0 then ((some (([67] : List Int) : List Int)).bind fun y191 => ((scan_PutNum.f a0_0).bind fun t194 => (if (strOfNums y191).size + t194.size ≤ 9223372036854775807 then ((scan_PutNum.f (l0_1.length : Int)).bind fun t195 => (if ((strOfNums y191) ++ t194).size + t195.size ≤ 9223372036854775807 then (commit_Put_p.l0 k (((strOfNums y191) ++ t194) ++ t195) l0_1 (l0_1.length : Int) 0 a0_0 l0_1 a0_2 a0_3) else (none))) else (none)))) else (some ((⟨#[]⟩ : ByteArray), t190)))
theorem commit_Put_p.mono_l : ∀ k, (∀ y0 y1 y2 y3 y4 y5 y6 y7, LeO (commit_Put_p.l0 k y0 y1 y2 y3 y4 y5 y6 y7) (commit_Put_p.l0 (k + 1) y0 y1 y2 y3 y4 y5 y6 y7))
  | 0 => fun _ _ _ _ _ _ _ _ r h => by simp [commit_Put_p.l0] at h
  | k + 1 => by
    have ih0 := commit_Put_p.mono_l k
    · intro y0 y1 y2 y3 y4 y5 y6 y7
      unfold commit_Put_p.l0
      repeat' first
      | (with_reducible exact ih0 _ _ _ _ _ _ _ _)
      | (with_reducible exact LeO.refl _)
      | (with_reducible exact LeO.none _)
      | (with_reducible refine LeO.ite ?_ ?_)
      | (with_reducible refine LeO.bind ?_ (fun _ => ?_))
      | exact ih0 _ _ _ _ _ _ _ _
      | exact LeO.none _
      | refine LeO.ite ?_ ?_
      | refine LeO.bind ?_ (fun _ => ?_)
theorem commit_Put_p.mono : ∀ a0 a1 a2 a3 k, LeO (commit_Put_p.f k a0 a1 a2 a3) (commit_Put_p.f (k + 1) a0 a1 a2 a3) := by
  intro a0 a1 a2 a3 k
  have ih0 := commit_Put_p.mono_l k
  unfold commit_Put_p.f
  repeat' first
      | (with_reducible exact ih0 _ _ _ _ _ _ _ _)
      | (with_reducible exact LeO.refl _)
      | (with_reducible exact LeO.none _)
      | (with_reducible refine LeO.ite ?_ ?_)
      | (with_reducible refine LeO.bind ?_ (fun _ => ?_))
      | exact ih0 _ _ _ _ _ _ _ _
      | exact LeO.none _
      | refine LeO.ite ?_ ?_
      | refine LeO.bind ?_ (fun _ => ?_)
def commit_Put_p.T4 : Bool × List (List Nat × List Nat) := (true, [([], []), ([0], [0]), ([], []), ([2], [2]), ([3], [3]), ([1, 4], [1, 4]), ([], []), ([6], [6]), ([7], [7]), ([8, 4], [8]), ([5, 9], [5, 9]), ([10, 9, 0, 1, 2, 3, 4, 5, 6, 7, 8, 9, 10], [10])])
def commit_Put_p.B4 : List Nat := [0, 1, 0, 4, 12, 31, 0, 64, 192, 476, 1023, 2047]
theorem commit_Put_p.tab4 : rtab .any (opsOf Tryd.f13 4) = commit_Put_p.T4 := by kernel_rfl
theorem commit_Put_p.bits4 : waitsOk commit_Put_p.T4.2 commit_Put_p.B4 = true := by kernel_rfl
def commit_Put_p.T10 : Bool × List (List Nat × List Nat) := (true, [([], []), ([], []), ([1], [1]), ([0, 2], [0, 2]), ([], []), ([4], [4]), ([5], [5]), ([3, 6], [3, 6]), ([7, 6, 0, 1, 2, 3, 4, 5, 6, 7], [7]), ([8, 0, 1, 2, 3, 4, 5, 6, 7, 8], [])])
def commit_Put_p.B10 : List Nat := [0, 0, 2, 7, 0, 16, 48, 127, 255, 511]
theorem commit_Put_p.tab10 : rtab .any (opsOf Tryd.f13 10) = commit_Put_p.T10 := by kernel_rfl
theorem commit_Put_p.bits10 : waitsOk commit_Put_p.T10.2 commit_Put_p.B10 = true := by kernel_rfl
set_option maxHeartbeats 8000000 in
set_option maxRecDepth 100000 in
theorem commit_Put_p.calls (k : Nat) (a0_0 : Int) (A0_1 : Option Addr) (c0_1 : Nat) (l0_1 : List ByteArray) (a0_2 : ByteArray) (a0_3 : ByteArray) (r1 : ByteArray) (r2 : Int) (w : World) (hr0_1 : Kd.C Kd.string w A0_1 l0_1.length l0_1) (hc0_1 : l0_1.length ≤ c0_1) (h : commit_Put_p.f k a0_0 l0_1 a0_2 a0_3 = some (r1, r2)) :
    Calls Tryd.prog 13 #[.agg #[.int .i64 a0_0, .slice A0_1 l0_1.length c0_1, .string a0_2, .string a0_3]] w fun e w' => e = .returned (.tuple #[.string r1, .int .i64 r2]) ∧ Below w.heap.size w w' := by
  have hu24 := Tryd.underlying24
  have HR0_1 := Aside0.mk hr0_1
  have HC0_1 := Aside0.mk hc0_1
  clear hr0_1 hc0_1
  have HB := Aside0.mk (Below.refl w.heap.size w)
  have H : ((commit_Check.f a0_0 l0_1 a0_2 a0_3).bind fun t190 => (if t190 = 0 then ((some (([67] : List Int) : List Int)).bind fun y191 => ((scan_PutNum.f a0_0).bind fun t194 => (if (strOfNums y191).size + t194.size ≤ 9223372036854775807 then ((scan_PutNum.f (l0_1.length : Int)).bind fun t195 => (if ((strOfNums y191) ++ t194).size + t195.size ≤ 9223372036854775807 then (commit_Put_p.l0 k (((strOfNums y191) ++ t194) ++ t195) l0_1 (l0_1.length : Int) 0 a0_0 l0_1 a0_2 a0_3) else (none))) else (none)))) else (some ((⟨#[]⟩ : ByteArray), t190)))) = some (r1, r2) := h
  clear h
  replace H := Option.bind_eq_some_iff.mp H
  obtain ⟨t190, A20, H⟩ := H
  replace H : (if t190 = 0 then ((some (([67] : List Int) : List Int)).bind fun y191 => ((scan_PutNum.f a0_0).bind fun t194 => (if (strOfNums y191).size + t194.size ≤ 9223372036854775807 then ((scan_PutNum.f (l0_1.length : Int)).bind fun t195 => (if ((strOfNums y191) ++ t194).size + t195.size ≤ 9223372036854775807 then (commit_Put_p.l0 k (((strOfNums y191) ++ t194) ++ t195) l0_1 (l0_1.length : Int) 0 a0_0 l0_1 a0_2 a0_3) else (none))) else (none)))) else (some ((⟨#[]⟩ : ByteArray), t190))) = some (r1, r2) := H
  have A2 := Aside0.mk A20
  clear A20
  by_cases c3 : t190 = 0
  · rw [if_pos c3] at H
    have c3b0 : (t190 == 0) = true := beq_iff_eq.mpr c3
    have c3b1 : (t190 != 0) = false := bne_eq_false_iff_eq.mpr c3
    clear c3
    obtain ⟨y191, hy191⟩ : ∃ y_ : List Int, y_ = (([67] : List Int)) := ⟨_, rfl⟩
    replace H : ((scan_PutNum.f a0_0).bind fun t194 => (if (strOfNums y191).size + t194.size ≤ 9223372036854775807 then ((scan_PutNum.f (l0_1.length : Int)).bind fun t195 => (if ((strOfNums y191) ++ t194).size + t195.size ≤ 9223372036854775807 then (commit_Put_p.l0 k (((strOfNums y191) ++ t194) ++ t195) l0_1 (l0_1.length : Int) 0 a0_0 l0_1 a0_2 a0_3) else (none))) else (none))) = some (r1, r2) := by first | (rw [hy191]; with_reducible exact H) | (have H2_ := (Option.bind_some _ _).symm.trans H; rw [hy191]; with_reducible exact H2_) | (have H2_ := (Option.bind_some _ _).symm.trans H; with_reducible exact H2_) | with_reducible exact H | (rw [hy191]; exact H) | exact H
    have Ny191 := Aside0.mk hy191
    clear hy191
    replace H := Option.bind_eq_some_iff.mp H
    obtain ⟨t194, A40, H⟩ := H
    replace H : (if (strOfNums y191).size + t194.size ≤ 9223372036854775807 then ((scan_PutNum.f (l0_1.length : Int)).bind fun t195 => (if ((strOfNums y191) ++ t194).size + t195.size ≤ 9223372036854775807 then (commit_Put_p.l0 k (((strOfNums y191) ++ t194) ++ t195) l0_1 (l0_1.length : Int) 0 a0_0 l0_1 a0_2 a0_3) else (none))) else (none)) = some (r1, r2) := H
    have A4 := Aside0.mk A40
    clear A40
    by_cases c5 : (strOfNums y191).size + t194.size ≤ 9223372036854775807
    · rw [if_pos c5] at H
      have c5b0 := eq_true c5
      have c5b1 : decide ((strOfNums y191).size + t194.size ≤ 9223372036854775807) = true := decide_eq_true c5
      try have c5b2 : (9223372036854775807 < (strOfNums y191).size + t194.size) = False := eq_false (Nat.not_lt.2 c5)
      replace H := Option.bind_eq_some_iff.mp H
      obtain ⟨t195, A60, H⟩ := H
      replace H : (if ((strOfNums y191) ++ t194).size + t195.size ≤ 9223372036854775807 then (commit_Put_p.l0 k (((strOfNums y191) ++ t194) ++ t195) l0_1 (l0_1.length : Int) 0 a0_0 l0_1 a0_2 a0_3) else (none)) = some (r1, r2) := H
      have A6 := Aside0.mk A60
      clear A60
      by_cases c7 : ((strOfNums y191) ++ t194).size + t195.size ≤ 9223372036854775807
      · rw [if_pos c7] at H
        have c7b0 := eq_true c7
        have c7b1 : decide (((strOfNums y191) ++ t194).size + t195.size ≤ 9223372036854775807) = true := decide_eq_true c7
        try have c7b2 : (9223372036854775807 < ((strOfNums y191) ++ t194).size + t195.size) = False := eq_false (Nat.not_lt.2 c7)
        have c7m := c7
        (try simp only [ByteArray.size_append] at c7m)
        have c7b3 := eq_true c7m
        have c7b4 := eq_false (Nat.not_lt.2 c7m)
        have c7b5 := decide_eq_true c7m
        have H' := Aside0.mk H
        clear H
        go_enter Tryd.func13, Tryd.ntmps13
        try go_wp2_with (first | ((with_reducible refine gate_dst (N := 1) rfl ?_); refine box_event ?hg (N := 1) ?hd (cs := #[.int .i64 a0_0, .slice A0_1 l0_1.length c0_1, .string a0_2, .string a0_3]) (t := 24) ?hr ?_; (case hd => rfl); (case hg => rfl); (case hr => first | (go_simp; done) | (go_simp; rfl)); intro zae hg w8 hbox hb; have n0_ := M.upS HB hb; have n1_ := Aside0.mk (hbox); have n2_ := M.upG HB hg; have n3_ := M.upG HB hg; clear HB; have HB := n0_; have zaf := n1_; have zag := n2_; have zah := n3_; clear n0_ n1_ n2_ n3_; clear hb hbox hg; have zai : w8.cell? ⟨zae, 0, none⟩ = some (.int .i64 a0_0) := (blk_cell zaf.out 0).trans rfl; have zaj : w8.cell? ⟨zae, 1, none⟩ = some (.slice A0_1 l0_1.length c0_1) := (blk_cell zaf.out 1).trans rfl; have zak : w8.cell? ⟨zae, 2, none⟩ = some (.string a0_2) := (blk_cell zaf.out 2).trans rfl; have zal : w8.cell? ⟨zae, 3, none⟩ = some (.string a0_3) := (blk_cell zaf.out 3).trans rfl; have zam := blk_frozen zaf.out 0; have zan := blk_frozen zaf.out 1; have zao := blk_frozen zaf.out 2; have zap := blk_frozen zaf.out 3) | ((with_reducible refine gate_callee (f := 18) rfl ?_); refine M.goes (some 9) Tryd.func18 #[.agg #[.int .i64 a0_0, .slice A0_1 l0_1.length c0_1, .string a0_2, .string a0_3]] rfl ?_; (with_reducible refine (commit_Check.calls a0_0 _ _ l0_1 a0_2 a0_3 t190 _ ?side1 ?side2 A2.out).mono ?_); (case side1 => exact M.cB HR0_1 HB); (case side2 => exact HC0_1.out); rintro e w10 ⟨rfl, hb⟩; refine ⟨_, rfl, ?_⟩; have n0_ := M.bkB zaf hb; have n1_ := M.upS HB hb; clear zaf HB; have zaf := n0_; have HB := n1_; clear n0_ n1_; (try clear hb)))
        have n0_ := Aside0.mk (blk_drew zaf.out)
        have n1_ := Aside0.mk (below_drew1 HB.out)
        clear zaf HB
        have zaf := n0_
        have HB := n1_
        clear n0_ n1_
        refine start_ (n := 12) (S := fun w' => w'.cell? ⟨zae, 0, none⟩ = some (.int .i64 a0_0) ∧ w'.cell? ⟨zae, 1, none⟩ = some (.slice A0_1 l0_1.length c0_1) ∧ w'.cell? ⟨zae, 2, none⟩ = some (.string a0_2) ∧ w'.cell? ⟨zae, 3, none⟩ = some (.string a0_3)) (ds := []) (M.tf [0, 12]) (by kernel_rfl) rfl rfl ⟨(blk_cell zaf.out 0).trans rfl, (blk_cell zaf.out 1).trans rfl, (blk_cell zaf.out 2).trans rfl, (blk_cell zaf.out 3).trans rfl⟩ (fun hHeld => ?_); refine with_tabW commit_Put_p.tab4 commit_Put_p.bits4 (fun HT_ HW_ => ?_)
        generalize w10.drew = w11 at zaf HB hHeld ⊢
        refine pure_ (i := 2) (N := some 15) (v := ?_) (a' := ?_) (M.tf [0, 2, 1, 9]) rfl rfl (any_of HT_.out (by kernel_rfl)) (fun _ _ _ h => h) (Or.inl ⟨by rfl, ?_⟩) ?_ ?_
        rotate_left
        · intro w'
          go_simp
          with_reducible rfl
        rotate_left
        · simp only [Act.put, List.setIfInBounds_toArray, List.set_cons_zero, List.set_cons_succ, i64_w, i32_w]
          rfl
        refine pure_ (i := 6) (N := some 19) (v := ?_) (a' := ?_) (M.tf [0, 2, 1, 3, 1, 5]) rfl rfl (any_of HT_.out (by kernel_rfl)) (fun _ _ _ h => h) (Or.inl ⟨by rfl, ?_⟩) ?_ ?_
        rotate_left
        · intro w'
          go_simp
          with_reducible rfl
        rotate_left
        · simp only [Act.put, List.setIfInBounds_toArray, List.set_cons_zero, List.set_cons_succ, i64_w, i32_w]
          rfl
        refine take_ (i := 3) (N := some 16) (v := ?_) (a' := ?_) (M.tf [0, 2, 2, 2, 1, 5]) rfl rfl (take_ofW HT_.out HW_.out (by kernel_rfl)) (fun _ _ _ h => h) (Or.inl ⟨by rfl, ?_⟩) hHeld ?_ ?_
        rotate_left
        · rintro w' ⟨s0, s1, s2, s3⟩
          go_simp
          with_reducible rfl
        rotate_left
        · simp only [Act.put, List.setIfInBounds_toArray, List.set_cons_zero, List.set_cons_succ, i64_w, i32_w]
          rfl
        refine take_ (i := 7) (N := some 20) (v := ?_) (a' := ?_) (M.tf [0, 2, 2, 2, 2, 4]) rfl rfl (take_ofW HT_.out HW_.out (by kernel_rfl)) (fun _ _ _ h => h) (Or.inl ⟨by rfl, ?_⟩) hHeld ?_ ?_
        rotate_left
        · rintro w' ⟨s0, s1, s2, s3⟩
          go_simp
          with_reducible rfl
        rotate_left
        · simp only [Act.put, List.setIfInBounds_toArray, List.set_cons_zero, List.set_cons_succ, i64_w, i32_w]
          rfl
        refine pure_ (i := 8) (N := some 21) (v := ?_) (a' := ?_) (M.tf [0, 2, 2, 2, 3, 3]) rfl rfl (any_of HT_.out (by kernel_rfl)) (fun _ _ _ h => h) (Or.inl ⟨by rfl, ?_⟩) ?_ ?_
        rotate_left
        · intro w'
          go_simp
          with_reducible rfl
        rotate_left
        · simp only [Act.put, List.setIfInBounds_toArray, List.set_cons_zero, List.set_cons_succ, i64_w, i32_w]
          rfl
        refine join_ (σ := Value) 2 (M.tf [10, 2]) (fun s_ => [(13, s_), (14, .string (strOfNums y191)), (17, .string t194), (22, .string t195), (18, .string ((strOfNums y191) ++ t194))]) (fun s_ w' => (w'.cell? ⟨zae, 0, none⟩ = some (.int .i64 a0_0) ∧ w'.cell? ⟨zae, 1, none⟩ = some (.slice A0_1 l0_1.length c0_1) ∧ w'.cell? ⟨zae, 2, none⟩ = some (.string a0_2) ∧ w'.cell? ⟨zae, 3, none⟩ = some (.string a0_3)) ∧ (Kd.R (Kd.int .u8) 5 w' w.heap.size (fun _ => True) s_ y191) ∧ (w'.heap[zae]? = some (.cells #[.int .i64 a0_0, .slice A0_1 l0_1.length c0_1, .string a0_2, .string a0_3] 24 (0, 0))) ∧ (Below w.heap.size w w')) ?_ ?_
        rotate_left
        · intro hJ0_1_4_9
          refine join_ (σ := Value) 3 (M.tf [9, 3]) (fun s_ => [(13, s_), (14, .string (strOfNums y191)), (17, .string t194), (18, .string ((strOfNums y191) ++ t194))]) (fun s_ w' => (w'.cell? ⟨zae, 0, none⟩ = some (.int .i64 a0_0) ∧ w'.cell? ⟨zae, 1, none⟩ = some (.slice A0_1 l0_1.length c0_1) ∧ w'.cell? ⟨zae, 2, none⟩ = some (.string a0_2) ∧ w'.cell? ⟨zae, 3, none⟩ = some (.string a0_3)) ∧ (Kd.R (Kd.int .u8) 5 w' w.heap.size (fun _ => True) s_ y191) ∧ (w'.heap[zae]? = some (.cells #[.int .i64 a0_0, .slice A0_1 l0_1.length c0_1, .string a0_2, .string a0_3] 24 (0, 0))) ∧ (Below w.heap.size w w')) ?_ ?_
          rotate_left
          · intro hJ0_1_4
            refine join_ (σ := Value) 4 (M.tf [1, 1, 3, 1, 4, 2]) (fun s_ => [(13, s_), (17, .string t194), (22, .string t195)]) (fun s_ w' => (w'.cell? ⟨zae, 0, none⟩ = some (.int .i64 a0_0) ∧ w'.cell? ⟨zae, 1, none⟩ = some (.slice A0_1 l0_1.length c0_1) ∧ w'.cell? ⟨zae, 2, none⟩ = some (.string a0_2) ∧ w'.cell? ⟨zae, 3, none⟩ = some (.string a0_3)) ∧ (Kd.R (Kd.int .u8) 5 w' w.heap.size (fun _ => True) s_ y191) ∧ (w'.heap[zae]? = some (.cells #[.int .i64 a0_0, .slice A0_1 l0_1.length c0_1, .string a0_2, .string a0_3] 24 (0, 0))) ∧ (Below w.heap.size w w')) ?_ ?_
            rotate_left
            · intro hJ0_4_9
              refine join_ (σ := Value) 5 (M.tf [4, 2, 3, 3]) (fun s_ => [(13, s_), (14, .string (strOfNums y191))]) (fun s_ w' => (w'.cell? ⟨zae, 0, none⟩ = some (.int .i64 a0_0) ∧ w'.cell? ⟨zae, 1, none⟩ = some (.slice A0_1 l0_1.length c0_1) ∧ w'.cell? ⟨zae, 2, none⟩ = some (.string a0_2) ∧ w'.cell? ⟨zae, 3, none⟩ = some (.string a0_3)) ∧ (Kd.R (Kd.int .u8) 5 w' w.heap.size (fun _ => True) s_ y191) ∧ (w'.heap[zae]? = some (.cells #[.int .i64 a0_0, .slice A0_1 l0_1.length c0_1, .string a0_2, .string a0_3] 24 (0, 0))) ∧ (Below w.heap.size w w')) ?_ ?_
              rotate_left
              · intro hJ0_1
                refine join_ (σ := Value) 5 (M.tf [1, 1, 3, 1, 3, 3]) (fun s_ => [(13, s_), (17, .string t194)]) (fun s_ w' => (w'.cell? ⟨zae, 0, none⟩ = some (.int .i64 a0_0) ∧ w'.cell? ⟨zae, 1, none⟩ = some (.slice A0_1 l0_1.length c0_1) ∧ w'.cell? ⟨zae, 2, none⟩ = some (.string a0_2) ∧ w'.cell? ⟨zae, 3, none⟩ = some (.string a0_3)) ∧ (Kd.R (Kd.int .u8) 5 w' w.heap.size (fun _ => True) s_ y191) ∧ (w'.heap[zae]? = some (.cells #[.int .i64 a0_0, .slice A0_1 l0_1.length c0_1, .string a0_2, .string a0_3] 24 (0, 0))) ∧ (Below w.heap.size w w')) ?_ ?_
                rotate_left
                · intro hJ0_4
                  refine join_ (σ := Unit) 5 (M.tf [0, 2, 3, 1, 4, 2]) (fun s_ => [(17, .string t194), (22, .string t195)]) (fun s_ w' => (w'.cell? ⟨zae, 0, none⟩ = some (.int .i64 a0_0) ∧ w'.cell? ⟨zae, 1, none⟩ = some (.slice A0_1 l0_1.length c0_1) ∧ w'.cell? ⟨zae, 2, none⟩ = some (.string a0_2) ∧ w'.cell? ⟨zae, 3, none⟩ = some (.string a0_3)) ∧ (w'.heap[zae]? = some (.cells #[.int .i64 a0_0, .slice A0_1 l0_1.length c0_1, .string a0_2, .string a0_3] 24 (0, 0))) ∧ (Below w.heap.size w w')) ?_ ?_
                  rotate_left
                  · intro hJ4_9
                    refine join_ (σ := Value) 6 (M.tf [1, 1, 2, 2, 3, 3]) (fun s_ => [(13, s_)]) (fun s_ w' => (w'.cell? ⟨zae, 0, none⟩ = some (.int .i64 a0_0) ∧ w'.cell? ⟨zae, 1, none⟩ = some (.slice A0_1 l0_1.length c0_1) ∧ w'.cell? ⟨zae, 2, none⟩ = some (.string a0_2) ∧ w'.cell? ⟨zae, 3, none⟩ = some (.string a0_3)) ∧ (Kd.R (Kd.int .u8) 5 w' w.heap.size (fun _ => True) s_ y191) ∧ (w'.heap[zae]? = some (.cells #[.int .i64 a0_0, .slice A0_1 l0_1.length c0_1, .string a0_2, .string a0_3] 24 (0, 0))) ∧ (Below w.heap.size w w')) ?_ ?_
                    rotate_left
                    · intro hJ0
                      refine join_ (σ := Unit) 6 (M.tf [0, 2, 3, 1, 3, 3]) (fun s_ => [(17, .string t194)]) (fun s_ w' => (w'.cell? ⟨zae, 0, none⟩ = some (.int .i64 a0_0) ∧ w'.cell? ⟨zae, 1, none⟩ = some (.slice A0_1 l0_1.length c0_1) ∧ w'.cell? ⟨zae, 2, none⟩ = some (.string a0_2) ∧ w'.cell? ⟨zae, 3, none⟩ = some (.string a0_3)) ∧ (w'.heap[zae]? = some (.cells #[.int .i64 a0_0, .slice A0_1 l0_1.length c0_1, .string a0_2, .string a0_3] 24 (0, 0))) ∧ (Below w.heap.size w w')) ?_ ?_
                      rotate_left
                      · intro hJ4
                        refine two_ (i := 0) (j := 4) (Ni := some 13) (Nj := some 17) (M.tf [1, 1, 2, 2, 3, 3]) (M.tf [0, 2, 3, 1, 3, 3]) rfl rfl rfl rfl (two_of HT_.out (by kernel_rfl)) (by decide) (by decide) (fun K hK => ?_) (fun K hK => ?_)
                        · skip
                          refine Kd.R_lit_step (Kd.int .u8) _ 5 ?hg (N := 13) ?hd (xs := ([67] : List Int)) (inner := [.int .u8 67]) (ok := fun _ => True) (okp := fun _ => True) ?hr ?hp (fun _ hk => hk) trivial (Below.refl _ _) (Nat.le_refl _) (by simp) ?_; (case hd => rfl); (case hg => rfl); (case hr => first | (go_simp; done) | (go_simp; rfl)); (case hp => exact (Reps.one (show Kd.M (Kd.int .u8) _ _ _ 67 [.int .u8 67] from rfl) (Reps.none _ _)))
                          intro v192 w12 ho13 hb hg_ hnew_
                          clear hg_ hnew_
                          (first | rw [← Ny191.out] at ho13 | (simp only [Int.reduceToNat] at ho13; rw [← Ny191.out] at ho13))
                          have n0_ := Aside0.mk (Kd.R_lower ho13 (below_size (M.up HB)))
                          have n1_ := M.bkB zaf hb
                          have n2_ := M.upS HB hb
                          clear zaf HB
                          have HO193 := n0_
                          have zaf := n1_
                          have HB := n2_
                          clear n0_ n1_ n2_
                          clear hb ho13
                          refine hK.out _ _ ⟨(blk_cell zaf.out 0).trans rfl, (blk_cell zaf.out 1).trans rfl, (blk_cell zaf.out 2).trans rfl, (blk_cell zaf.out 3).trans rfl⟩ (fun hHeld => ?_)
                          clear hK K
                          refine norm_ (a' := ?_) ?_ ?_
                          rotate_left
                          · show Act.put _ (some 13) _ = _
                            simp only [Act.put, List.setIfInBounds_toArray, List.set_cons_zero, List.set_cons_succ, i64_w, i32_w]
                            rfl
                          exact norm_ (by first | (simp only [putAll, Act.put, List.setIfInBounds_toArray, List.set_cons_zero, List.set_cons_succ]; done) | (simp only [putAll, Act.put, List.setIfInBounds_toArray, List.set_cons_zero, List.set_cons_succ]; rfl)) (hJ0 (v192) _ ⟨hHeld, (M.ro HO193), (M.bk zaf), (M.up HB)⟩)
                        · skip
                          refine goes_ Tryd.func40 (by kernel_rfl) rfl #[.int .i64 a0_0] (by rfl) rfl rfl (by (try simp only [List.map_toArray, List.map_cons, List.map_nil]); first | done | rfl | (simp only [List.length_drop, List.length_take]; rfl)) ?_
                          with_reducible refine (scan_PutNum.calls a0_0 t194 _ A4.out).mono ?_
                          rintro e w12 ⟨rfl, hb⟩
                          refine ⟨_, rfl, ?_⟩
                          have n0_ := M.bkB zaf hb
                          have n1_ := M.upS HB hb
                          clear zaf HB
                          have zaf := n0_
                          have HB := n1_
                          clear n0_ n1_
                          (try clear hb)
                          (try clear hb2)
                          (try clear hk)
                          (try clear hi)
                          refine hK.out _ _ ⟨(blk_cell zaf.out 0).trans rfl, (blk_cell zaf.out 1).trans rfl, (blk_cell zaf.out 2).trans rfl, (blk_cell zaf.out 3).trans rfl⟩ (fun hHeld => ?_)
                          clear hK K
                          refine norm_ (a' := ?_) ?_ ?_
                          rotate_left
                          · show Act.put _ (some 17) _ = _
                            simp only [Act.put, List.setIfInBounds_toArray, List.set_cons_zero, List.set_cons_succ, i64_w, i32_w]
                            rfl
                          exact norm_ (by first | (simp only [putAll, Act.put, List.setIfInBounds_toArray, List.set_cons_zero, List.set_cons_succ]; done) | (simp only [putAll, Act.put, List.setIfInBounds_toArray, List.set_cons_zero, List.set_cons_succ]; rfl)) (hJ4 () _ ⟨hHeld, (M.bk zaf), (M.up HB)⟩)
                      · skip
                        rintro _ w13 ⟨hS_, h0_, h1_⟩
                        have n0_ : Aside0 (w13.heap[zae]? = some (.cells #[.int .i64 a0_0, .slice A0_1 l0_1.length c0_1, .string a0_2, .string a0_3] 24 (0, 0))) := ⟨h0_⟩
                        have n1_ : Aside0 (Below w.heap.size w w13) := ⟨h1_⟩
                        clear zaf HB
                        clear h0_ h1_
                        have zaf := n0_
                        have HB := n1_
                        clear n0_ n1_
                        have hHeld : w13.cell? ⟨zae, 0, none⟩ = some (.int .i64 a0_0) ∧ w13.cell? ⟨zae, 1, none⟩ = some (.slice A0_1 l0_1.length c0_1) ∧ w13.cell? ⟨zae, 2, none⟩ = some (.string a0_2) ∧ w13.cell? ⟨zae, 3, none⟩ = some (.string a0_3) := hS_
                        refine norm_ (a' := ?_) ?_ ?_
                        rotate_left
                        · simp only [putAll, Act.put, List.setIfInBounds_toArray, List.set_cons_zero, List.set_cons_succ]
                          rfl
                        refine two_ (i := 0) (j := 9) (Ni := some 13) (Nj := some 22) (M.tf [1, 1, 3, 1, 3, 3]) (M.tf [0, 2, 3, 1, 4, 2]) rfl rfl rfl rfl (two_of HT_.out (by kernel_rfl)) (by decide) (by decide) (fun K hK => ?_) (fun K hK => ?_)
                        · skip
                          refine Kd.R_lit_step (Kd.int .u8) _ 5 ?hg (N := 13) ?hd (xs := ([67] : List Int)) (inner := [.int .u8 67]) (ok := fun _ => True) (okp := fun _ => True) ?hr ?hp (fun _ hk => hk) trivial (Below.refl _ _) (Nat.le_refl _) (by simp) ?_; (case hd => rfl); (case hg => rfl); (case hr => first | (go_simp; done) | (go_simp; rfl)); (case hp => exact (Reps.one (show Kd.M (Kd.int .u8) _ _ _ 67 [.int .u8 67] from rfl) (Reps.none _ _)))
                          intro v192 w14 ho15 hb hg_ hnew_
                          clear hg_ hnew_
                          (first | rw [← Ny191.out] at ho15 | (simp only [Int.reduceToNat] at ho15; rw [← Ny191.out] at ho15))
                          have n0_ := Aside0.mk (Kd.R_lower ho15 (below_size (M.up HB)))
                          have n1_ := M.bkB zaf hb
                          have n2_ := M.upS HB hb
                          clear zaf HB
                          have HO193 := n0_
                          have zaf := n1_
                          have HB := n2_
                          clear n0_ n1_ n2_
                          clear hb ho15
                          refine hK.out _ _ ⟨(blk_cell zaf.out 0).trans rfl, (blk_cell zaf.out 1).trans rfl, (blk_cell zaf.out 2).trans rfl, (blk_cell zaf.out 3).trans rfl⟩ (fun hHeld => ?_)
                          clear hK K
                          refine norm_ (a' := ?_) ?_ ?_
                          rotate_left
                          · show Act.put _ (some 13) _ = _
                            simp only [Act.put, List.setIfInBounds_toArray, List.set_cons_zero, List.set_cons_succ, i64_w, i32_w]
                            rfl
                          exact norm_ (by first | (simp only [putAll, Act.put, List.setIfInBounds_toArray, List.set_cons_zero, List.set_cons_succ]; done) | (simp only [putAll, Act.put, List.setIfInBounds_toArray, List.set_cons_zero, List.set_cons_succ]; rfl)) (hJ0_4 (v192) _ ⟨hHeld, (M.ro HO193), (M.bk zaf), (M.up HB)⟩)
                        · skip
                          refine goes_ Tryd.func40 (by kernel_rfl) rfl #[.int .i64 (l0_1.length : Int)] (by rfl) rfl rfl (by (try simp only [List.map_toArray, List.map_cons, List.map_nil]); first | done | rfl | (simp only [List.length_drop, List.length_take]; rfl)) ?_
                          with_reducible refine (scan_PutNum.calls (l0_1.length : Int) t195 _ A6.out).mono ?_
                          rintro e w14 ⟨rfl, hb⟩
                          refine ⟨_, rfl, ?_⟩
                          have n0_ := M.bkB zaf hb
                          have n1_ := M.upS HB hb
                          clear zaf HB
                          have zaf := n0_
                          have HB := n1_
                          clear n0_ n1_
                          (try clear hb)
                          (try clear hb2)
                          (try clear hk)
                          (try clear hi)
                          refine hK.out _ _ ⟨(blk_cell zaf.out 0).trans rfl, (blk_cell zaf.out 1).trans rfl, (blk_cell zaf.out 2).trans rfl, (blk_cell zaf.out 3).trans rfl⟩ (fun hHeld => ?_)
                          clear hK K
                          refine norm_ (a' := ?_) ?_ ?_
                          rotate_left
                          · show Act.put _ (some 22) _ = _
                            simp only [Act.put, List.setIfInBounds_toArray, List.set_cons_zero, List.set_cons_succ, i64_w, i32_w]
                            rfl
                          exact norm_ (by first | (simp only [putAll, Act.put, List.setIfInBounds_toArray, List.set_cons_zero, List.set_cons_succ]; done) | (simp only [putAll, Act.put, List.setIfInBounds_toArray, List.set_cons_zero, List.set_cons_succ]; rfl)) (hJ4_9 () _ ⟨hHeld, (M.bk zaf), (M.up HB)⟩)
                    · skip
                      rintro v192 w14 ⟨hS_, h0_, h1_, h2_⟩
                      have n0_ : Aside0 (Kd.R (Kd.int .u8) 5 w14 w.heap.size (fun _ => True) v192 y191) := ⟨h0_⟩
                      have n1_ : Aside0 (w14.heap[zae]? = some (.cells #[.int .i64 a0_0, .slice A0_1 l0_1.length c0_1, .string a0_2, .string a0_3] 24 (0, 0))) := ⟨h1_⟩
                      have n2_ : Aside0 (Below w.heap.size w w14) := ⟨h2_⟩
                      clear zaf HB
                      clear h0_ h1_ h2_
                      have HO193 := n0_
                      have zaf := n1_
                      have HB := n2_
                      clear n0_ n1_ n2_
                      have hHeld : w14.cell? ⟨zae, 0, none⟩ = some (.int .i64 a0_0) ∧ w14.cell? ⟨zae, 1, none⟩ = some (.slice A0_1 l0_1.length c0_1) ∧ w14.cell? ⟨zae, 2, none⟩ = some (.string a0_2) ∧ w14.cell? ⟨zae, 3, none⟩ = some (.string a0_3) := hS_
                      refine norm_ (a' := ?_) ?_ ?_
                      rotate_left
                      · simp only [putAll, Act.put, List.setIfInBounds_toArray, List.set_cons_zero, List.set_cons_succ]
                        rfl
                      refine two_ (i := 1) (j := 4) (Ni := some 14) (Nj := some 17) (M.tf [4, 2, 3, 3]) (M.tf [1, 1, 3, 1, 3, 3]) rfl rfl rfl rfl (two_of HT_.out (by kernel_rfl)) (by decide) (by decide) (fun K hK => ?_) (fun K hK => ?_)
                      · skip
                        have hcv15 := own_string (P := Tryd.prog) Tryd.underlying76 Tryd.underlying5 Tryd.underlying9 (Kd.own_of_R HO193.out)
                        refine value_ (w1 := ?_) (v := ?_) (by rfl) rfl ?_ ?_
                        rotate_left 2
                        · go_simp
                          constructor
                          · rfl
                          · rfl
                        clear hcv15
                        refine hK.out _ _ ⟨(blk_cell zaf.out 0).trans rfl, (blk_cell zaf.out 1).trans rfl, (blk_cell zaf.out 2).trans rfl, (blk_cell zaf.out 3).trans rfl⟩ (fun hHeld => ?_)
                        clear hK K
                        refine norm_ (a' := ?_) ?_ ?_
                        rotate_left
                        · show Act.put _ (some 14) _ = _
                          simp only [Act.put, List.setIfInBounds_toArray, List.set_cons_zero, List.set_cons_succ, i64_w, i32_w]
                          rfl
                        exact norm_ (by first | (simp only [putAll, Act.put, List.setIfInBounds_toArray, List.set_cons_zero, List.set_cons_succ]; done) | (simp only [putAll, Act.put, List.setIfInBounds_toArray, List.set_cons_zero, List.set_cons_succ]; rfl)) (hJ0_1 (v192) _ ⟨hHeld, (M.ro HO193), (M.bk zaf), (M.up HB)⟩)
                      · skip
                        refine goes_ Tryd.func40 (by kernel_rfl) rfl #[.int .i64 a0_0] (by rfl) rfl rfl (by (try simp only [List.map_toArray, List.map_cons, List.map_nil]); first | done | rfl | (simp only [List.length_drop, List.length_take]; rfl)) ?_
                        with_reducible refine (scan_PutNum.calls a0_0 t194 _ A4.out).mono ?_
                        rintro e w15 ⟨rfl, hb⟩
                        refine ⟨_, rfl, ?_⟩
                        have n0_ := M.roB HO193 hb
                        have n1_ := M.bkB zaf hb
                        have n2_ := M.upS HB hb
                        clear HO193 zaf HB
                        have HO193 := n0_
                        have zaf := n1_
                        have HB := n2_
                        clear n0_ n1_ n2_
                        (try clear hb)
                        (try clear hb2)
                        (try clear hk)
                        (try clear hi)
                        refine hK.out _ _ ⟨(blk_cell zaf.out 0).trans rfl, (blk_cell zaf.out 1).trans rfl, (blk_cell zaf.out 2).trans rfl, (blk_cell zaf.out 3).trans rfl⟩ (fun hHeld => ?_)
                        clear hK K
                        refine norm_ (a' := ?_) ?_ ?_
                        rotate_left
                        · show Act.put _ (some 17) _ = _
                          simp only [Act.put, List.setIfInBounds_toArray, List.set_cons_zero, List.set_cons_succ, i64_w, i32_w]
                          rfl
                        exact norm_ (by first | (simp only [putAll, Act.put, List.setIfInBounds_toArray, List.set_cons_zero, List.set_cons_succ]; done) | (simp only [putAll, Act.put, List.setIfInBounds_toArray, List.set_cons_zero, List.set_cons_succ]; rfl)) (hJ0_4 (v192) _ ⟨hHeld, (M.ro HO193), (M.bk zaf), (M.up HB)⟩)
                  · skip
                    rintro _ w14 ⟨hS_, h0_, h1_⟩
                    have n0_ : Aside0 (w14.heap[zae]? = some (.cells #[.int .i64 a0_0, .slice A0_1 l0_1.length c0_1, .string a0_2, .string a0_3] 24 (0, 0))) := ⟨h0_⟩
                    have n1_ : Aside0 (Below w.heap.size w w14) := ⟨h1_⟩
                    clear zaf HB
                    clear h0_ h1_
                    have zaf := n0_
                    have HB := n1_
                    clear n0_ n1_
                    have hHeld : w14.cell? ⟨zae, 0, none⟩ = some (.int .i64 a0_0) ∧ w14.cell? ⟨zae, 1, none⟩ = some (.slice A0_1 l0_1.length c0_1) ∧ w14.cell? ⟨zae, 2, none⟩ = some (.string a0_2) ∧ w14.cell? ⟨zae, 3, none⟩ = some (.string a0_3) := hS_
                    refine norm_ (a' := ?_) ?_ ?_
                    rotate_left
                    · simp only [putAll, Act.put, List.setIfInBounds_toArray, List.set_cons_zero, List.set_cons_succ]
                      rfl
                    refine one_ (i := 0) (N := some 13) (M.tf [1, 1, 3, 1, 4, 2]) rfl rfl (one_of HT_.out (by kernel_rfl)) (by decide) (fun K hK => ?_)
                    refine Kd.R_lit_step (Kd.int .u8) _ 5 ?hg (N := 13) ?hd (xs := ([67] : List Int)) (inner := [.int .u8 67]) (ok := fun _ => True) (okp := fun _ => True) ?hr ?hp (fun _ hk => hk) trivial (Below.refl _ _) (Nat.le_refl _) (by simp) ?_; (case hd => rfl); (case hg => rfl); (case hr => first | (go_simp; done) | (go_simp; rfl)); (case hp => exact (Reps.one (show Kd.M (Kd.int .u8) _ _ _ 67 [.int .u8 67] from rfl) (Reps.none _ _)))
                    intro v192 w15 ho16 hb hg_ hnew_
                    clear hg_ hnew_
                    (first | rw [← Ny191.out] at ho16 | (simp only [Int.reduceToNat] at ho16; rw [← Ny191.out] at ho16))
                    have n0_ := Aside0.mk (Kd.R_lower ho16 (below_size (M.up HB)))
                    have n1_ := M.bkB zaf hb
                    have n2_ := M.upS HB hb
                    clear zaf HB
                    have HO193 := n0_
                    have zaf := n1_
                    have HB := n2_
                    clear n0_ n1_ n2_
                    clear hb ho16
                    refine hK.out _ _ ⟨(blk_cell zaf.out 0).trans rfl, (blk_cell zaf.out 1).trans rfl, (blk_cell zaf.out 2).trans rfl, (blk_cell zaf.out 3).trans rfl⟩ (fun hHeld => ?_)
                    clear hK K
                    refine norm_ (a' := ?_) ?_ ?_
                    rotate_left
                    · show Act.put _ (some 13) _ = _
                      simp only [Act.put, List.setIfInBounds_toArray, List.set_cons_zero, List.set_cons_succ, i64_w, i32_w]
                      rfl
                    exact norm_ (by first | (simp only [putAll, Act.put, List.setIfInBounds_toArray, List.set_cons_zero, List.set_cons_succ]; done) | (simp only [putAll, Act.put, List.setIfInBounds_toArray, List.set_cons_zero, List.set_cons_succ]; rfl)) (hJ0_4_9 (v192) _ ⟨hHeld, (M.ro HO193), (M.bk zaf), (M.up HB)⟩)
                · skip
                  rintro v192 w15 ⟨hS_, h0_, h1_, h2_⟩
                  have n0_ : Aside0 (Kd.R (Kd.int .u8) 5 w15 w.heap.size (fun _ => True) v192 y191) := ⟨h0_⟩
                  have n1_ : Aside0 (w15.heap[zae]? = some (.cells #[.int .i64 a0_0, .slice A0_1 l0_1.length c0_1, .string a0_2, .string a0_3] 24 (0, 0))) := ⟨h1_⟩
                  have n2_ : Aside0 (Below w.heap.size w w15) := ⟨h2_⟩
                  clear zaf HB
                  clear h0_ h1_ h2_
                  have HO193 := n0_
                  have zaf := n1_
                  have HB := n2_
                  clear n0_ n1_ n2_
                  have hHeld : w15.cell? ⟨zae, 0, none⟩ = some (.int .i64 a0_0) ∧ w15.cell? ⟨zae, 1, none⟩ = some (.slice A0_1 l0_1.length c0_1) ∧ w15.cell? ⟨zae, 2, none⟩ = some (.string a0_2) ∧ w15.cell? ⟨zae, 3, none⟩ = some (.string a0_3) := hS_
                  refine norm_ (a' := ?_) ?_ ?_
                  rotate_left
                  · simp only [putAll, Act.put, List.setIfInBounds_toArray, List.set_cons_zero, List.set_cons_succ]
                    rfl
                  refine two_ (i := 1) (j := 9) (Ni := some 14) (Nj := some 22) (M.tf [5, 1, 3, 3]) (M.tf [1, 1, 3, 1, 4, 2]) rfl rfl rfl rfl (two_of HT_.out (by kernel_rfl)) (by decide) (by decide) (fun K hK => ?_) (fun K hK => ?_)
                  · skip
                    have hcv16 := own_string (P := Tryd.prog) Tryd.underlying76 Tryd.underlying5 Tryd.underlying9 (Kd.own_of_R HO193.out)
                    refine value_ (w1 := ?_) (v := ?_) (by rfl) rfl ?_ ?_
                    rotate_left 2
                    · go_simp
                      constructor
                      · rfl
                      · rfl
                    clear hcv16
                    refine hK.out _ _ ⟨(blk_cell zaf.out 0).trans rfl, (blk_cell zaf.out 1).trans rfl, (blk_cell zaf.out 2).trans rfl, (blk_cell zaf.out 3).trans rfl⟩ (fun hHeld => ?_)
                    clear hK K
                    refine norm_ (a' := ?_) ?_ ?_
                    rotate_left
                    · show Act.put _ (some 14) _ = _
                      simp only [Act.put, List.setIfInBounds_toArray, List.set_cons_zero, List.set_cons_succ, i64_w, i32_w]
                      rfl
                    refine pure_ (i := 5) (N := some 18) (v := ?_) (a' := ?_) (M.tf [9, 3]) rfl rfl (any_of HT_.out (by kernel_rfl)) (fun _ _ _ h => h) (Or.inl ⟨by rfl, ?_⟩) ?_ ?_
                    rotate_left
                    · intro w'
                      go_simp
                      with_reducible rfl
                    rotate_left
                    · simp only [Act.put, List.setIfInBounds_toArray, List.set_cons_zero, List.set_cons_succ, i64_w, i32_w]
                      rfl
                    exact norm_ (by first | (simp only [putAll, Act.put, List.setIfInBounds_toArray, List.set_cons_zero, List.set_cons_succ]; done) | (simp only [putAll, Act.put, List.setIfInBounds_toArray, List.set_cons_zero, List.set_cons_succ]; rfl)) (hJ0_1_4 (v192) _ ⟨hHeld, (M.ro HO193), (M.bk zaf), (M.up HB)⟩)
                  · skip
                    refine goes_ Tryd.func40 (by kernel_rfl) rfl #[.int .i64 (l0_1.length : Int)] (by rfl) rfl rfl (by (try simp only [List.map_toArray, List.map_cons, List.map_nil]); first | done | rfl | (simp only [List.length_drop, List.length_take]; rfl)) ?_
                    with_reducible refine (scan_PutNum.calls (l0_1.length : Int) t195 _ A6.out).mono ?_
                    rintro e w16 ⟨rfl, hb⟩
                    refine ⟨_, rfl, ?_⟩
                    have n0_ := M.roB HO193 hb
                    have n1_ := M.bkB zaf hb
                    have n2_ := M.upS HB hb
                    clear HO193 zaf HB
                    have HO193 := n0_
                    have zaf := n1_
                    have HB := n2_
                    clear n0_ n1_ n2_
                    (try clear hb)
                    (try clear hb2)
                    (try clear hk)
                    (try clear hi)
                    refine hK.out _ _ ⟨(blk_cell zaf.out 0).trans rfl, (blk_cell zaf.out 1).trans rfl, (blk_cell zaf.out 2).trans rfl, (blk_cell zaf.out 3).trans rfl⟩ (fun hHeld => ?_)
                    clear hK K
                    refine norm_ (a' := ?_) ?_ ?_
                    rotate_left
                    · show Act.put _ (some 22) _ = _
                      simp only [Act.put, List.setIfInBounds_toArray, List.set_cons_zero, List.set_cons_succ, i64_w, i32_w]
                      rfl
                    exact norm_ (by first | (simp only [putAll, Act.put, List.setIfInBounds_toArray, List.set_cons_zero, List.set_cons_succ]; done) | (simp only [putAll, Act.put, List.setIfInBounds_toArray, List.set_cons_zero, List.set_cons_succ]; rfl)) (hJ0_4_9 (v192) _ ⟨hHeld, (M.ro HO193), (M.bk zaf), (M.up HB)⟩)
              · skip
                rintro v192 w15 ⟨hS_, h0_, h1_, h2_⟩
                have n0_ : Aside0 (Kd.R (Kd.int .u8) 5 w15 w.heap.size (fun _ => True) v192 y191) := ⟨h0_⟩
                have n1_ : Aside0 (w15.heap[zae]? = some (.cells #[.int .i64 a0_0, .slice A0_1 l0_1.length c0_1, .string a0_2, .string a0_3] 24 (0, 0))) := ⟨h1_⟩
                have n2_ : Aside0 (Below w.heap.size w w15) := ⟨h2_⟩
                clear zaf HB
                clear h0_ h1_ h2_
                have HO193 := n0_
                have zaf := n1_
                have HB := n2_
                clear n0_ n1_ n2_
                have hHeld : w15.cell? ⟨zae, 0, none⟩ = some (.int .i64 a0_0) ∧ w15.cell? ⟨zae, 1, none⟩ = some (.slice A0_1 l0_1.length c0_1) ∧ w15.cell? ⟨zae, 2, none⟩ = some (.string a0_2) ∧ w15.cell? ⟨zae, 3, none⟩ = some (.string a0_3) := hS_
                refine norm_ (a' := ?_) ?_ ?_
                rotate_left
                · simp only [putAll, Act.put, List.setIfInBounds_toArray, List.set_cons_zero, List.set_cons_succ]
                  rfl
                refine one_ (i := 4) (N := some 17) (M.tf [5, 1, 3, 3]) rfl rfl (one_of HT_.out (by kernel_rfl)) (by decide) (fun K hK => ?_)
                refine goes_ Tryd.func40 (by kernel_rfl) rfl #[.int .i64 a0_0] (by rfl) rfl rfl (by (try simp only [List.map_toArray, List.map_cons, List.map_nil]); first | done | rfl | (simp only [List.length_drop, List.length_take]; rfl)) ?_
                with_reducible refine (scan_PutNum.calls a0_0 t194 _ A4.out).mono ?_
                rintro e w16 ⟨rfl, hb⟩
                refine ⟨_, rfl, ?_⟩
                have n0_ := M.roB HO193 hb
                have n1_ := M.bkB zaf hb
                have n2_ := M.upS HB hb
                clear HO193 zaf HB
                have HO193 := n0_
                have zaf := n1_
                have HB := n2_
                clear n0_ n1_ n2_
                (try clear hb)
                (try clear hb2)
                (try clear hk)
                (try clear hi)
                refine hK.out _ _ ⟨(blk_cell zaf.out 0).trans rfl, (blk_cell zaf.out 1).trans rfl, (blk_cell zaf.out 2).trans rfl, (blk_cell zaf.out 3).trans rfl⟩ (fun hHeld => ?_)
                clear hK K
                refine norm_ (a' := ?_) ?_ ?_
                rotate_left
                · show Act.put _ (some 17) _ = _
                  simp only [Act.put, List.setIfInBounds_toArray, List.set_cons_zero, List.set_cons_succ, i64_w, i32_w]
                  rfl
                refine pure_ (i := 5) (N := some 18) (v := ?_) (a' := ?_) (M.tf [9, 3]) rfl rfl (any_of HT_.out (by kernel_rfl)) (fun _ _ _ h => h) (Or.inl ⟨by rfl, ?_⟩) ?_ ?_
                rotate_left
                · intro w'
                  go_simp
                  with_reducible rfl
                rotate_left
                · simp only [Act.put, List.setIfInBounds_toArray, List.set_cons_zero, List.set_cons_succ, i64_w, i32_w]
                  rfl
                exact norm_ (by first | (simp only [putAll, Act.put, List.setIfInBounds_toArray, List.set_cons_zero, List.set_cons_succ]; done) | (simp only [putAll, Act.put, List.setIfInBounds_toArray, List.set_cons_zero, List.set_cons_succ]; rfl)) (hJ0_1_4 (v192) _ ⟨hHeld, (M.ro HO193), (M.bk zaf), (M.up HB)⟩)
            · skip
              rintro v192 w16 ⟨hS_, h0_, h1_, h2_⟩
              have n0_ : Aside0 (Kd.R (Kd.int .u8) 5 w16 w.heap.size (fun _ => True) v192 y191) := ⟨h0_⟩
              have n1_ : Aside0 (w16.heap[zae]? = some (.cells #[.int .i64 a0_0, .slice A0_1 l0_1.length c0_1, .string a0_2, .string a0_3] 24 (0, 0))) := ⟨h1_⟩
              have n2_ : Aside0 (Below w.heap.size w w16) := ⟨h2_⟩
              clear zaf HB
              clear h0_ h1_ h2_
              have HO193 := n0_
              have zaf := n1_
              have HB := n2_
              clear n0_ n1_ n2_
              have hHeld : w16.cell? ⟨zae, 0, none⟩ = some (.int .i64 a0_0) ∧ w16.cell? ⟨zae, 1, none⟩ = some (.slice A0_1 l0_1.length c0_1) ∧ w16.cell? ⟨zae, 2, none⟩ = some (.string a0_2) ∧ w16.cell? ⟨zae, 3, none⟩ = some (.string a0_3) := hS_
              refine norm_ (a' := ?_) ?_ ?_
              rotate_left
              · simp only [putAll, Act.put, List.setIfInBounds_toArray, List.set_cons_zero, List.set_cons_succ]
                rfl
              refine one_ (i := 1) (N := some 14) (M.tf [5, 1, 4, 2]) rfl rfl (one_of HT_.out (by kernel_rfl)) (by decide) (fun K hK => ?_)
              have hcv17 := own_string (P := Tryd.prog) Tryd.underlying76 Tryd.underlying5 Tryd.underlying9 (Kd.own_of_R HO193.out)
              refine value_ (w1 := ?_) (v := ?_) (by rfl) rfl ?_ ?_
              rotate_left 2
              · go_simp
                constructor
                · rfl
                · rfl
              clear hcv17
              refine hK.out _ _ ⟨(blk_cell zaf.out 0).trans rfl, (blk_cell zaf.out 1).trans rfl, (blk_cell zaf.out 2).trans rfl, (blk_cell zaf.out 3).trans rfl⟩ (fun hHeld => ?_)
              clear hK K
              refine norm_ (a' := ?_) ?_ ?_
              rotate_left
              · show Act.put _ (some 14) _ = _
                simp only [Act.put, List.setIfInBounds_toArray, List.set_cons_zero, List.set_cons_succ, i64_w, i32_w]
                rfl
              refine pure_ (i := 5) (N := some 18) (v := ?_) (a' := ?_) (M.tf [10, 2]) rfl rfl (any_of HT_.out (by kernel_rfl)) (fun _ _ _ h => h) (Or.inl ⟨by rfl, ?_⟩) ?_ ?_
              rotate_left
              · intro w'
                go_simp
                with_reducible rfl
              rotate_left
              · simp only [Act.put, List.setIfInBounds_toArray, List.set_cons_zero, List.set_cons_succ, i64_w, i32_w]
                rfl
              exact norm_ (by first | (simp only [putAll, Act.put, List.setIfInBounds_toArray, List.set_cons_zero, List.set_cons_succ]; done) | (simp only [putAll, Act.put, List.setIfInBounds_toArray, List.set_cons_zero, List.set_cons_succ]; rfl)) (hJ0_1_4_9 (v192) _ ⟨hHeld, (M.ro HO193), (M.bk zaf), (M.up HB)⟩)
          · skip
            rintro v192 w16 ⟨hS_, h0_, h1_, h2_⟩
            have n0_ : Aside0 (Kd.R (Kd.int .u8) 5 w16 w.heap.size (fun _ => True) v192 y191) := ⟨h0_⟩
            have n1_ : Aside0 (w16.heap[zae]? = some (.cells #[.int .i64 a0_0, .slice A0_1 l0_1.length c0_1, .string a0_2, .string a0_3] 24 (0, 0))) := ⟨h1_⟩
            have n2_ : Aside0 (Below w.heap.size w w16) := ⟨h2_⟩
            clear zaf HB
            clear h0_ h1_ h2_
            have HO193 := n0_
            have zaf := n1_
            have HB := n2_
            clear n0_ n1_ n2_
            have hHeld : w16.cell? ⟨zae, 0, none⟩ = some (.int .i64 a0_0) ∧ w16.cell? ⟨zae, 1, none⟩ = some (.slice A0_1 l0_1.length c0_1) ∧ w16.cell? ⟨zae, 2, none⟩ = some (.string a0_2) ∧ w16.cell? ⟨zae, 3, none⟩ = some (.string a0_3) := hS_
            refine norm_ (a' := ?_) ?_ ?_
            rotate_left
            · simp only [putAll, Act.put, List.setIfInBounds_toArray, List.set_cons_zero, List.set_cons_succ]
              rfl
            refine one_ (i := 9) (N := some 22) (M.tf [10, 2]) rfl rfl (one_of HT_.out (by kernel_rfl)) (by decide) (fun K hK => ?_)
            refine goes_ Tryd.func40 (by kernel_rfl) rfl #[.int .i64 (l0_1.length : Int)] (by rfl) rfl rfl (by (try simp only [List.map_toArray, List.map_cons, List.map_nil]); first | done | rfl | (simp only [List.length_drop, List.length_take]; rfl)) ?_
            with_reducible refine (scan_PutNum.calls (l0_1.length : Int) t195 _ A6.out).mono ?_
            rintro e w17 ⟨rfl, hb⟩
            refine ⟨_, rfl, ?_⟩
            have n0_ := M.roB HO193 hb
            have n1_ := M.bkB zaf hb
            have n2_ := M.upS HB hb
            clear HO193 zaf HB
            have HO193 := n0_
            have zaf := n1_
            have HB := n2_
            clear n0_ n1_ n2_
            (try clear hb)
            (try clear hb2)
            (try clear hk)
            (try clear hi)
            refine hK.out _ _ ⟨(blk_cell zaf.out 0).trans rfl, (blk_cell zaf.out 1).trans rfl, (blk_cell zaf.out 2).trans rfl, (blk_cell zaf.out 3).trans rfl⟩ (fun hHeld => ?_)
            clear hK K
            refine norm_ (a' := ?_) ?_ ?_
            rotate_left
            · show Act.put _ (some 22) _ = _
              simp only [Act.put, List.setIfInBounds_toArray, List.set_cons_zero, List.set_cons_succ, i64_w, i32_w]
              rfl
            exact norm_ (by first | (simp only [putAll, Act.put, List.setIfInBounds_toArray, List.set_cons_zero, List.set_cons_succ]; done) | (simp only [putAll, Act.put, List.setIfInBounds_toArray, List.set_cons_zero, List.set_cons_succ]; rfl)) (hJ0_1_4_9 (v192) _ ⟨hHeld, (M.ro HO193), (M.bk zaf), (M.up HB)⟩)
        rintro v192 w17 ⟨hS_, h0_, h1_, h2_⟩
        have n0_ : Aside0 (Kd.R (Kd.int .u8) 5 w17 w.heap.size (fun _ => True) v192 y191) := ⟨h0_⟩
        have n1_ : Aside0 (w17.heap[zae]? = some (.cells #[.int .i64 a0_0, .slice A0_1 l0_1.length c0_1, .string a0_2, .string a0_3] 24 (0, 0))) := ⟨h1_⟩
        have n2_ : Aside0 (Below w.heap.size w w17) := ⟨h2_⟩
        clear zaf HB
        clear h0_ h1_ h2_
        have HO193 := n0_
        have zaf := n1_
        have HB := n2_
        clear n0_ n1_ n2_
        have hHeld : w17.cell? ⟨zae, 0, none⟩ = some (.int .i64 a0_0) ∧ w17.cell? ⟨zae, 1, none⟩ = some (.slice A0_1 l0_1.length c0_1) ∧ w17.cell? ⟨zae, 2, none⟩ = some (.string a0_2) ∧ w17.cell? ⟨zae, 3, none⟩ = some (.string a0_3) := hS_
        refine norm_ (a' := ?_) ?_ ?_
        rotate_left
        · simp only [putAll, Act.put, List.setIfInBounds_toArray, List.set_cons_zero, List.set_cons_succ]
          rfl
        refine pure_ (i := 10) (N := some 23) (v := ?_) (a' := ?_) (M.tf [11, 1]) rfl rfl (any_of HT_.out (by kernel_rfl)) (fun _ _ _ h => h) (Or.inl ⟨by rfl, ?_⟩) ?_ ?_
        rotate_left
        · intro w'
          go_simp
          with_reducible rfl
        rotate_left
        · simp only [Act.put, List.setIfInBounds_toArray, List.set_cons_zero, List.set_cons_succ, i64_w, i32_w]
          rfl
        refine pure_ (i := 11) (N := some 5) (v := ?_) (a' := ?_) (M.tf [12]) rfl rfl (any_of HT_.out (by kernel_rfl)) (fun _ _ _ h => h) (Or.inl ⟨by rfl, ?_⟩) ?_ ?_
        rotate_left
        · intro w'
          go_simp
          with_reducible rfl
        rotate_left
        · simp only [Act.put, List.setIfInBounds_toArray, List.set_cons_zero, List.set_cons_succ, i64_w, i32_w]
          rfl
        refine done_ (done_of HT_.out (by kernel_rfl)) ?_
        have zaq : w17.cell? ⟨zae, 0, none⟩ = some (.int .i64 a0_0) := (blk_cell zaf.out 0).trans rfl
        have zar : w17.cell? ⟨zae, 1, none⟩ = some (.slice A0_1 l0_1.length c0_1) := (blk_cell zaf.out 1).trans rfl
        have zas : w17.cell? ⟨zae, 2, none⟩ = some (.string a0_2) := (blk_cell zaf.out 2).trans rfl
        have zat : w17.cell? ⟨zae, 3, none⟩ = some (.string a0_3) := (blk_cell zaf.out 3).trans rfl
        have zau := blk_frozen zaf.out 0
        have zav := blk_frozen zaf.out 1
        have zaw := blk_frozen zaf.out 2
        have zax := blk_frozen zaf.out 3
        try go_wp2
        go_loopg [5, 27] k (fun kq v5 v27 w' => ∃ (x5_1 : ByteArray) (x27_1 : Int), v5 = .string x5_1 ∧ v27 = .int .i64 x27_1 ∧ Aside0 (commit_Put_p.l0 kq x5_1 l0_1 (l0_1.length : Int) x27_1 a0_0 l0_1 a0_2 a0_3 = some (r1, r2)) ∧ Aside0 (kq ≤ k) ∧ Aside0 (w'.heap[zae]? = some (.cells #[.int .i64 a0_0, (.slice A0_1 l0_1.length c0_1), .string a0_2, .string a0_3] 24 (0, 0))) ∧ Aside0 (Below w.heap.size w w'))
        case atStart => exact ⟨(((strOfNums y191) ++ t194) ++ t195), (0), (by first | rfl | (simp; done) | (simp [*]; done) | (simp [M.isEmpty_bne]; done)), (by first | rfl | (simp; done) | (simp [*]; done) | (simp [M.isEmpty_bne]; done)), H', ⟨Nat.le_refl _⟩, ⟨by (with_reducible repeat (first | refine blk_drewN ?_ _ | refine blk_drew ?_ | refine blk_alloc ?_ _)); exact zaf.out⟩, ⟨M.up HB⟩⟩
        case round =>
          clear H'
          try clear c1
          try clear hcv1
          try clear p2
          try clear c3
          try clear c3b0
          try clear c3b1
          try clear c4
          try clear c5
          try clear c5b0
          try clear c5b1
          try clear c5b2
          try clear c7
          try clear c7b0
          try clear c7b1
          try clear c7b2
          try clear c13
          try clear hcv15
          try clear hcv16
          try clear hcv17
          try clear c18
          try clear zaq
          try clear zar
          try clear zas
          try clear zat
          try clear zai
          try clear zaj
          try clear zak
          try clear zal
          try clear zau
          try clear zav
          try clear zaw
          try clear zax
          try clear zam
          try clear zan
          try clear zao
          try clear zap
          obtain ⟨x5_1, x27_1, rfl, rfl, HA, HK1, zaf, HB⟩ := hrel
          cases gk with
          | zero => exact absurd HA.out (by simp [commit_Put_p.l0])
          | succ k1 =>
            have H := HA.out
            clear HA
            simp only [commit_Put_p.l0] at H
            by_cases c19 : x27_1 < (l0_1.length : Int)
            · rw [if_pos c19] at H
              have c19b0 : decide (x27_1 < (l0_1.length : Int)) = true := decide_eq_true c19
              clear c19
              by_cases c20 : 0 ≤ x27_1
              · rw [if_pos c20] at H
                have c20b0 : decide (0 ≤ x27_1) = true := decide_eq_true c20
                clear c20
                by_cases c21 : x27_1 < (l0_1.length : Int)
                · rw [if_pos c21] at H
                  have c21b0 : decide (x27_1 < (l0_1.length : Int)) = true := decide_eq_true c21
                  clear c21
                  by_cases c22 : x5_1.size + (rdOf ByteArray.empty l0_1 x27_1).size ≤ 9223372036854775807
                  · rw [if_pos c22] at H
                    have c22b0 := eq_true c22
                    have c22b1 : decide (x5_1.size + (rdOf ByteArray.empty l0_1 x27_1).size ≤ 9223372036854775807) = true := decide_eq_true c22
                    try have c22b2 : (9223372036854775807 < x5_1.size + (rdOf ByteArray.empty l0_1 x27_1).size) = False := eq_false (Nat.not_lt.2 c22)
                    have H' := Aside0.mk H
                    clear H
                    have p196 : 0 ≤ (x27_1 : Int) := of_decide_eq_true (by first | (with_reducible assumption) | assumption)
                    have q196 : x27_1 < (l0_1.length : Int) := of_decide_eq_true (by first | (with_reducible assumption) | assumption)
                    obtain ⟨ad196, e196, hx196_0⟩ := Kd.at_string HR0_1.out x27_1 p196 q196
                    cases e196
                    replace hx196_0 := (HB.out.cell (World.block_lt_of_cell? w _ hx196_0)).trans hx196_0
                    replace p196 := eq_true p196
                    replace q196 := eq_true q196
                    go_wp2
                    go_roundg k1
                    case measure => have := HK1.out; omega
                    case rel => exact ⟨(x5_1 ++ (rdOf ByteArray.empty l0_1 x27_1)), (wrap64 (x27_1 + 1)), (by first | rfl | (simp; done) | (simp [*]; done) | (simp [M.isEmpty_bne]; done)), (by first | rfl | (simp; done) | (simp [*]; done) | (simp [M.isEmpty_bne]; done)), H', ⟨by have := HK1.out; omega⟩, ⟨by (with_reducible repeat (first | refine blk_drewN ?_ _ | refine blk_drew ?_ | refine blk_alloc ?_ _)); exact zaf.out⟩, ⟨M.up HB⟩⟩
                  · rw [if_neg c22] at H
                    exact absurd H (by simp)
                · rw [if_neg c21] at H
                  exact absurd H (by simp)
              · rw [if_neg c20] at H
                exact absurd H (by simp)
            · rw [if_neg c19] at H
              have c19b0 : decide (x27_1 < (l0_1.length : Int)) = false := decide_eq_false c19
              clear c19
              by_cases c23 : x5_1.size + a0_2.size ≤ 9223372036854775807
              · rw [if_pos c23] at H
                have c23b0 := eq_true c23
                have c23b1 : decide (x5_1.size + a0_2.size ≤ 9223372036854775807) = true := decide_eq_true c23
                try have c23b2 : (9223372036854775807 < x5_1.size + a0_2.size) = False := eq_false (Nat.not_lt.2 c23)
                replace H := Option.bind_eq_some_iff.mp H
                obtain ⟨t197, A240, H⟩ := H
                replace H : (if (x5_1 ++ a0_2).size + t197.size ≤ 9223372036854775807 then (some ((x5_1 ++ a0_2) ++ t197, 0)) else (none)) = some (r1, r2) := H
                have A24 := Aside0.mk A240
                clear A240
                by_cases c25 : (x5_1 ++ a0_2).size + t197.size ≤ 9223372036854775807
                · rw [if_pos c25] at H
                  have c25b0 := eq_true c25
                  have c25b1 : decide ((x5_1 ++ a0_2).size + t197.size ≤ 9223372036854775807) = true := decide_eq_true c25
                  try have c25b2 : (9223372036854775807 < (x5_1 ++ a0_2).size + t197.size) = False := eq_false (Nat.not_lt.2 c25)
                  have c25m := c25
                  (try simp only [ByteArray.size_append] at c25m)
                  have c25b3 := eq_true c25m
                  have c25b4 := eq_false (Nat.not_lt.2 c25m)
                  have c25b5 := decide_eq_true c25m
                  simp only [Option.some.injEq, Prod.mk.injEq] at H
                  obtain ⟨rfl, rfl⟩ := H
                  try go_wp2
                  have n0_ := Aside0.mk (blk_drew zaf.out)
                  have n1_ := Aside0.mk (below_drew1 HB.out)
                  clear zaf HB
                  have zaf := n0_
                  have HB := n1_
                  clear n0_ n1_
                  refine start_ (n := 10) (S := fun w' => w'.cell? ⟨zae, 0, none⟩ = some (.int .i64 a0_0) ∧ w'.cell? ⟨zae, 1, none⟩ = some (.slice A0_1 l0_1.length c0_1) ∧ w'.cell? ⟨zae, 2, none⟩ = some (.string a0_2) ∧ w'.cell? ⟨zae, 3, none⟩ = some (.string a0_3)) (ds := []) #[false, false, false, false, false, false, false, false, false, false] (by kernel_rfl) rfl rfl ⟨(blk_cell zaf.out 0).trans rfl, (blk_cell zaf.out 1).trans rfl, (blk_cell zaf.out 2).trans rfl, (blk_cell zaf.out 3).trans rfl⟩ (fun hHeld => ?_); refine with_tabW commit_Put_p.tab10 commit_Put_p.bits10 (fun HT_ HW_ => ?_)
                  generalize wr.drew = w26 at zaf HB hHeld ⊢
                  refine pure_ (i := 0) (N := some 35) (v := ?_) (a' := ?_) #[true, false, false, false, false, false, false, false, false, false] rfl rfl (any_of HT_.out (by kernel_rfl)) (fun _ _ _ h => h) (Or.inl ⟨by rfl, ?_⟩) ?_ ?_
                  rotate_left
                  · intro w'
                    go_simp
                    with_reducible rfl
                  rotate_left
                  · simp only [Act.put, List.setIfInBounds_toArray, List.set_cons_zero, List.set_cons_succ, i64_w, i32_w]
                    rfl
                  refine pure_ (i := 1) (N := some 36) (v := ?_) (a' := ?_) #[true, true, false, false, false, false, false, false, false, false] rfl rfl (any_of HT_.out (by kernel_rfl)) (fun _ _ _ h => h) (Or.inl ⟨by rfl, ?_⟩) ?_ ?_
                  rotate_left
                  · intro w'
                    go_simp
                    with_reducible rfl
                  rotate_left
                  · simp only [Act.put, List.setIfInBounds_toArray, List.set_cons_zero, List.set_cons_succ, i64_w, i32_w]
                    rfl
                  refine pure_ (i := 4) (N := some 39) (v := ?_) (a' := ?_) #[true, true, false, false, true, false, false, false, false, false] rfl rfl (any_of HT_.out (by kernel_rfl)) (fun _ _ _ h => h) (Or.inl ⟨by rfl, ?_⟩) ?_ ?_
                  rotate_left
                  · intro w'
                    go_simp
                    with_reducible rfl
                  rotate_left
                  · simp only [Act.put, List.setIfInBounds_toArray, List.set_cons_zero, List.set_cons_succ, i64_w, i32_w]
                    rfl
                  refine take_ (i := 2) (N := some 37) (v := ?_) (a' := ?_) #[true, true, true, false, true, false, false, false, false, false] rfl rfl (take_ofW HT_.out HW_.out (by kernel_rfl)) (fun _ _ _ h => h) (Or.inl ⟨by rfl, ?_⟩) hHeld ?_ ?_
                  rotate_left
                  · rintro w' ⟨s0, s1, s2, s3⟩
                    go_simp
                    with_reducible rfl
                  rotate_left
                  · simp only [Act.put, List.setIfInBounds_toArray, List.set_cons_zero, List.set_cons_succ, i64_w, i32_w]
                    rfl
                  refine pure_ (i := 3) (N := some 38) (v := ?_) (a' := ?_) #[true, true, true, true, true, false, false, false, false, false] rfl rfl (any_of HT_.out (by kernel_rfl)) (fun _ _ _ h => h) (Or.inl ⟨by rfl, ?_⟩) ?_ ?_
                  rotate_left
                  · intro w'
                    go_simp
                    with_reducible rfl
                  rotate_left
                  · simp only [Act.put, List.setIfInBounds_toArray, List.set_cons_zero, List.set_cons_succ, i64_w, i32_w]
                    rfl
                  refine take_ (i := 5) (N := some 40) (v := ?_) (a' := ?_) #[true, true, true, true, true, true, false, false, false, false] rfl rfl (take_ofW HT_.out HW_.out (by kernel_rfl)) (fun _ _ _ h => h) (Or.inl ⟨by rfl, ?_⟩) hHeld ?_ ?_
                  rotate_left
                  · rintro w' ⟨s0, s1, s2, s3⟩
                    go_simp
                    with_reducible rfl
                  rotate_left
                  · simp only [Act.put, List.setIfInBounds_toArray, List.set_cons_zero, List.set_cons_succ, i64_w, i32_w]
                    rfl
                  refine one_ (i := 6) (N := some 41) #[true, true, true, true, true, true, true, false, false, false] rfl rfl (one_of HT_.out (by kernel_rfl)) (by decide) (fun K hK => ?_)
                  refine goes_ Tryd.func41 (by kernel_rfl) rfl #[.string a0_3] (by rfl) rfl rfl (by (try simp only [List.map_toArray, List.map_cons, List.map_nil]); first | done | rfl | (simp only [List.length_drop, List.length_take]; rfl)) ?_
                  with_reducible refine (scan_PutText.calls a0_3 t197 _ A24.out).mono ?_
                  rintro e w27 ⟨rfl, hb⟩
                  refine ⟨_, rfl, ?_⟩
                  have n0_ := M.bkB zaf hb
                  have n1_ := M.upS HB hb
                  clear zaf HB
                  have zaf := n0_
                  have HB := n1_
                  clear n0_ n1_
                  (try clear hb)
                  (try clear hb2)
                  (try clear hk)
                  (try clear hi)
                  refine hK.out _ _ ⟨(blk_cell zaf.out 0).trans rfl, (blk_cell zaf.out 1).trans rfl, (blk_cell zaf.out 2).trans rfl, (blk_cell zaf.out 3).trans rfl⟩ (fun hHeld => ?_)
                  clear hK K
                  refine norm_ (a' := ?_) ?_ ?_
                  rotate_left
                  · show Act.put _ (some 41) _ = _
                    simp only [Act.put, List.setIfInBounds_toArray, List.set_cons_zero, List.set_cons_succ, i64_w, i32_w]
                    rfl
                  refine pure_ (i := 7) (N := some 42) (v := ?_) (a' := ?_) #[true, true, true, true, true, true, true, true, false, false] rfl rfl (any_of HT_.out (by kernel_rfl)) (fun _ _ _ h => h) (Or.inl ⟨by rfl, ?_⟩) ?_ ?_
                  rotate_left
                  · intro w'
                    go_simp
                    with_reducible rfl
                  rotate_left
                  · simp only [Act.put, List.setIfInBounds_toArray, List.set_cons_zero, List.set_cons_succ, i64_w, i32_w]
                    rfl
                  refine pure_ (i := 8) (N := some 2) (v := ?_) (a' := ?_) #[true, true, true, true, true, true, true, true, true, false] rfl rfl (any_of HT_.out (by kernel_rfl)) (fun _ _ _ h => h) (Or.inl ⟨by rfl, ?_⟩) ?_ ?_
                  rotate_left
                  · intro w'
                    go_simp
                    with_reducible rfl
                  rotate_left
                  · simp only [Act.put, List.setIfInBounds_toArray, List.set_cons_zero, List.set_cons_succ, i64_w, i32_w]
                    rfl
                  refine pure_ (i := 9) (N := some 3) (v := ?_) (a' := ?_) #[true, true, true, true, true, true, true, true, true, true] rfl rfl (any_of HT_.out (by kernel_rfl)) (fun _ _ _ h => h) (Or.inl ⟨by rfl, ?_⟩) ?_ ?_
                  rotate_left
                  · intro w'
                    go_simp
                    with_reducible rfl
                  rotate_left
                  · simp only [Act.put, List.setIfInBounds_toArray, List.set_cons_zero, List.set_cons_succ, i64_w, i32_w]
                    rfl
                  refine done_ (done_of HT_.out (by kernel_rfl)) ?_
                  try go_wp2
                  go_ret2
                  exact M.fin (M.up HB)
                · rw [if_neg c25] at H
                  exact absurd H (by simp)
              · rw [if_neg c23] at H
                exact absurd H (by simp)
      · rw [if_neg c7] at H
        exact absurd H (by simp)
    · rw [if_neg c5] at H
      exact absurd H (by simp)
  · rw [if_neg c3] at H
    have c3b0 : (t190 == 0) = false := beq_eq_false_iff_ne.mpr c3
    have c3b1 : (t190 != 0) = true := bne_iff_ne.mpr c3
    simp only [Option.some.injEq, Prod.mk.injEq] at H
    obtain ⟨rfl, rfl⟩ := H
    go_enter Tryd.func13, Tryd.ntmps13
    go_wp2_with (first | ((with_reducible refine gate_dst (N := 1) rfl ?_); refine box_event ?hg (N := 1) ?hd (cs := #[.int .i64 a0_0, .slice A0_1 l0_1.length c0_1, .string a0_2, .string a0_3]) (t := 24) ?hr ?_; (case hd => rfl); (case hg => rfl); (case hr => first | (go_simp; done) | (go_simp; rfl)); intro zae hg w28 hbox hb; have n0_ := M.upS HB hb; have n1_ := Aside0.mk (hbox); have n2_ := M.upG HB hg; have n3_ := M.upG HB hg; clear HB; have HB := n0_; have zaf := n1_; have zag := n2_; have zah := n3_; clear n0_ n1_ n2_ n3_; clear hb hbox hg; have zay : w28.cell? ⟨zae, 0, none⟩ = some (.int .i64 a0_0) := (blk_cell zaf.out 0).trans rfl; have zaz : w28.cell? ⟨zae, 1, none⟩ = some (.slice A0_1 l0_1.length c0_1) := (blk_cell zaf.out 1).trans rfl; have zaA : w28.cell? ⟨zae, 2, none⟩ = some (.string a0_2) := (blk_cell zaf.out 2).trans rfl; have zaB : w28.cell? ⟨zae, 3, none⟩ = some (.string a0_3) := (blk_cell zaf.out 3).trans rfl; have zaC := blk_frozen zaf.out 0; have zaD := blk_frozen zaf.out 1; have zaE := blk_frozen zaf.out 2; have zaF := blk_frozen zaf.out 3) | ((with_reducible refine gate_callee (f := 18) rfl ?_); refine M.goes (some 9) Tryd.func18 #[.agg #[.int .i64 a0_0, .slice A0_1 l0_1.length c0_1, .string a0_2, .string a0_3]] rfl ?_; (with_reducible refine (commit_Check.calls a0_0 _ _ l0_1 a0_2 a0_3 t190 _ ?side1 ?side2 A2.out).mono ?_); (case side1 => exact M.cB HR0_1 HB); (case side2 => exact HC0_1.out); rintro e w30 ⟨rfl, hb⟩; refine ⟨_, rfl, ?_⟩; have n0_ := M.bkB zaf hb; have n1_ := M.upS HB hb; clear zaf HB; have zaf := n0_; have HB := n1_; clear n0_ n1_; (try clear hb)))
    go_ret2
    exact M.fin (M.up HB)

-- this session's own plain form
def commit_Put.f (a0_0 : Int) (l0_1 : List ByteArray) (a0_2 : ByteArray) (a0_3 : ByteArray) : Option (ByteArray × Int) := some (if M.isC a0_0 l0_1 a0_2 a0_3 then (M.sb (M.cput a0_0 l0_1 a0_2 a0_3), 0) else (⟨#[]⟩, 2))
theorem commit_Put.loop (n : Int) (ps : List ByteArray) (g note : ByteArray) (hl : ps.length ≤ 2) (hp : ∀ p ∈ ps, p.size = 32) (hg : g.size = 32) (hn : note.size ≤ 40) (d : Nat) : ∀ (i : Nat) (out : ByteArray), i + d = ps.length → out.size ≤ 100 + 32 * i →
    commit_Put_p.l0 (d + 1) out ps (ps.length : Int) (i : Int) n ps g note = some (out ++ M.sb ((ps.drop i).flatMap M.bs ++ (M.bs g ++ (M.vb note.size ++ M.bs note))), 0) := by
  have hv := M.vb_le note.size (by omega)
  have hv2 : (M.sb (M.vb note.size)).size ≤ 10 := by rw [M.size_sb]; exact hv
  have ht : scan_PutText.f note = some (M.sb (M.vb note.size) ++ note) := if_pos (by omega)
  induction d with
  | zero =>
    intro i out hi ho
    rw [commit_Put_p.l0, if_neg (by omega), if_pos (by omega), ht, Option.bind_some, if_pos (by simp only [M.size_append]; omega), List.drop_of_length_le (by omega)]
    congr 2
    apply M.bs_inj
    simp only [M.bs_append, M.bs_sb, List.flatMap_nil, List.nil_append, List.append_assoc]
  | succ d ih =>
    intro i out hi ho
    have h1 : i < ps.length := by omega
    have r1 : rdOf ByteArray.empty ps (i : Int) = ps[i] := by simp [rdOf, List.getD, h1]
    have hz := hp ps[i] (List.getElem_mem h1)
    have hsz : (out ++ ps[i]).size ≤ 100 + 32 * (i + 1) := by rw [M.size_append, hz]; omega
    rw [commit_Put_p.l0, if_pos (by omega), if_pos (by omega), if_pos (by omega), r1, if_pos (by omega), M.wrap64_id (by omega) (by omega), show (i : Int) + 1 = ((i + 1 : Nat) : Int) from by omega, ih (i + 1) _ (by omega) hsz, List.drop_eq_getElem_cons h1]
    congr 2
    apply M.bs_inj
    simp only [M.bs_append, M.bs_sb, List.flatMap_cons, List.append_assoc]
theorem commit_Put.ev (n : Int) (ps : List ByteArray) (g note : ByteArray) (r : ByteArray × Int) (h : commit_Put.f n ps g note = some r) : ∃ k, commit_Put_p.f k n ps g note = some r := by
  unfold commit_Put.f at h
  obtain rfl := Option.some.inj h
  refine ⟨ps.length + 1, ?_⟩
  unfold commit_Put_p.f commit_Check.f
  rw [Option.bind_some]
  by_cases hc : M.isC n ps g note
  · obtain ⟨⟨hn0, hn1⟩, hp2, hg, hnote, hps, _⟩ := id hc
    have hv := M.vb_le n.toNat (by omega)
    have hv2 := M.vb_le ps.length (by omega)
    have e1 : scan_PutNum.f n = some (M.sb (M.vb n.toNat)) := if_pos (by omega)
    have e2 : scan_PutNum.f (ps.length : Int) = some (M.sb (M.vb ps.length)) := by
      have : scan_PutNum.f (ps.length : Int) = some (M.sb (M.vb (ps.length : Int).toNat)) := if_pos (by omega)
      rw [this, Int.toNat_natCast]
    have e3 : strOfNums ([67] : List Int) = M.sb [67] := M.bs_inj (M.strOfNums_nat [67])
    rw [if_pos hc, if_pos rfl, Option.bind_some, e1, Option.bind_some, e3, if_pos (by rw [M.size_sb, M.size_sb]; simp only [List.length_cons, List.length_nil]; omega), e2, Option.bind_some, if_pos (by rw [M.size_append, M.size_sb, M.size_sb, M.size_sb]; simp only [List.length_cons, List.length_nil]; omega)]
    have := commit_Put.loop n ps g note hp2 hps hg hnote ps.length 0 (M.sb [67] ++ M.sb (M.vb n.toNat) ++ M.sb (M.vb ps.length)) (by omega) (by rw [M.size_append, M.size_append, M.size_sb, M.size_sb, M.size_sb]; simp only [List.length_cons, List.length_nil]; omega)
    rw [show ((0 : Nat) : Int) = 0 from rfl] at this
    rw [this, if_pos hc]
    congr 2
    apply M.bs_inj
    simp only [M.bs_append, M.bs_sb, M.cput, List.drop_zero, List.append_assoc]
  · rw [if_neg hc, if_neg (by decide), if_neg hc]
theorem commit_Put.calls (a0_0 : Int) (A0_1 : Option Addr) (c0_1 : Nat) (l0_1 : List ByteArray) (a0_2 : ByteArray) (a0_3 : ByteArray) (r1 : ByteArray) (r2 : Int) (w : World) (hr0_1 : Kd.C Kd.string w A0_1 l0_1.length l0_1) (hc0_1 : l0_1.length ≤ c0_1) (h : commit_Put.f a0_0 l0_1 a0_2 a0_3 = some (r1, r2)) :
    Calls Tryd.prog 13 #[.agg #[.int .i64 a0_0, .slice A0_1 l0_1.length c0_1, .string a0_2, .string a0_3]] w fun e w' => e = .returned (.tuple #[.string r1, .int .i64 r2]) ∧ Below w.heap.size w w' := by
  obtain ⟨k, hk⟩ := commit_Put.ev _ _ _ _ _ h
  exact commit_Put_p.calls (k := k) (w := w) (h := hk) (hr0_1 := hr0_1) (hc0_1 := hc0_1)

end Go.Proofs.YtikdbklmhjlfoaaDoor.ECommitPuts
