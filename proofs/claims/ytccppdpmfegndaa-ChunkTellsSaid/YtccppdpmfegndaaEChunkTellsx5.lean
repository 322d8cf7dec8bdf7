-- Written by this session's own program (wip/tools/ext.py) for this claim; Lean checks it.
import Derived.Test.YtccppdpmfegndaaEChunkTellsx0
import Derived.Test.YtccppdpmfegndaaEChunkTellsx3
import Derived.Test.YtccppdpmfegndaaEChunkTellsx4
namespace Go.Proofs.Ytccppdpmfegndaa.EChunkTells
open Go.RowKit Go.Proofs.YtccppdpmfegndaaW.PrintWords Go.Proofs.YtccppdpmfegndaaW.PrintLast Go.Proofs.YtccppdpmfegndaaW.PrintMore
attribute [local go_sem] M.run_leq M.run_gtr M.run_geq max2_int min2_int max_two min_two max_three min_three max_four min_four   -- for this text's walks alone
set_option linter.unusedVariables false
set_option linter.unusedSimpArgs false

/-! ### chunk_Put_p: function 17 -/
mutual
def chunk_Put_p.j0 : Nat → ByteArray → Int → List (S29) → List Int → Option (ByteArray × Int)
  | 0, _, _, _, _ => none
  | k + 1, x5, zaa, zab, zac => (scan_PutNum.f (zab.length : Int)).bind fun t123 => (if x5.size + t123.size ≤ 9223372036854775807 then (chunk_Put_p.l0 k (x5 ++ t123) zab (zab.length : Int) 0 zaa zab zac) else (none))
def chunk_Put_p.l0 : Nat → ByteArray → List (S29) → Int → Int → Int → List (S29) → List Int → Option (ByteArray × Int)
  | 0, _, _, _, _, _, _, _ => none
  | k + 1, x5, x31, x32, x33, zaa, zab, zac => if x33 < x32 then (if 0 ≤ x33 then (if x33 < (x31.length : Int) then ((scan_PutText.f ((rd_T29 x31 x33).f0)).bind fun t126 => (if x5.size + t126.size ≤ 9223372036854775807 then (if zaa > 0 then (if x33 < (zac.length : Int) then ((scan_PutNum.f (rd zac x33)).bind fun t128 => (if ((rd_T29 x31 x33).f1).size + t128.size ≤ 9223372036854775807 then (if (x5 ++ t126).size + (((rd_T29 x31 x33).f1) ++ t128).size ≤ 9223372036854775807 then (chunk_Put_p.l0 k ((x5 ++ t126) ++ (((rd_T29 x31 x33).f1) ++ t128)) x31 x32 (wrap64 (x33 + 1)) zaa zab zac) else (none)) else (none))) else (none)) else ((scan_PutText.f ((rd_T29 x31 x33).f1)).bind fun t129 => (if (x5 ++ t126).size + t129.size ≤ 9223372036854775807 then (chunk_Put_p.l0 k ((x5 ++ t126) ++ t129) x31 x32 (wrap64 (x33 + 1)) zaa zab zac) else (none)))) else (none))) else (none)) else (none)) else (some (x5, 0))
end
def chunk_Put_p.f (k : Nat) (a0_0 : Int) (l0_1 : List (S29)) (l0_2 : List Int) : Option (ByteArray × Int) := (chunk_Check.f a0_0 l0_1 l0_2).bind fun t115 => (if t115 = 0 then (if a0_0 > 0 then ((some (([73] : List Int) : List Int)).bind fun y119 => ((scan_PutNum.f a0_0).bind fun t122 => (if (strOfNums y119).size + t122.size ≤ 9223372036854775807 then (chunk_Put_p.j0 k ((strOfNums y119) ++ t122) a0_0 l0_1 l0_2) else (none)))) else (chunk_Put_p.j0 k (strOfNums (([76] : List Int))) a0_0 l0_1 l0_2)) else (some ((⟨#[]⟩ : ByteArray), t115)))
theorem chunk_Put_p.mono_l : ∀ k, (∀ y0 y1 y2 y3, LeO (chunk_Put_p.j0 k y0 y1 y2 y3) (chunk_Put_p.j0 (k + 1) y0 y1 y2 y3)) ∧ (∀ y0 y1 y2 y3 y4 y5 y6, LeO (chunk_Put_p.l0 k y0 y1 y2 y3 y4 y5 y6) (chunk_Put_p.l0 (k + 1) y0 y1 y2 y3 y4 y5 y6))
  | 0 => ⟨fun _ _ _ _ r h => by simp [chunk_Put_p.j0] at h, fun _ _ _ _ _ _ _ r h => by simp [chunk_Put_p.l0] at h⟩
  | k + 1 => by
    obtain ⟨ih0, ih1⟩ := chunk_Put_p.mono_l k
    refine ⟨?_, ?_⟩
    · intro y0 y1 y2 y3
      unfold chunk_Put_p.j0
      repeat' first
      | (with_reducible exact ih0 _ _ _ _)
      | (with_reducible exact ih1 _ _ _ _ _ _ _)
      | (with_reducible exact LeO.refl _)
      | (with_reducible exact LeO.none _)
      | (with_reducible refine LeO.ite ?_ ?_)
      | (with_reducible refine LeO.bind ?_ (fun _ => ?_))
      | exact ih0 _ _ _ _
      | exact ih1 _ _ _ _ _ _ _
      | exact LeO.none _
      | refine LeO.ite ?_ ?_
      | refine LeO.bind ?_ (fun _ => ?_)
    · intro y0 y1 y2 y3 y4 y5 y6
      unfold chunk_Put_p.l0
      repeat' first
      | (with_reducible exact ih0 _ _ _ _)
      | (with_reducible exact ih1 _ _ _ _ _ _ _)
      | (with_reducible exact LeO.refl _)
      | (with_reducible exact LeO.none _)
      | (with_reducible refine LeO.ite ?_ ?_)
      | (with_reducible refine LeO.bind ?_ (fun _ => ?_))
      | exact ih0 _ _ _ _
      | exact ih1 _ _ _ _ _ _ _
      | exact LeO.none _
      | refine LeO.ite ?_ ?_
      | refine LeO.bind ?_ (fun _ => ?_)
theorem chunk_Put_p.mono : ∀ a0 a1 a2 k, LeO (chunk_Put_p.f k a0 a1 a2) (chunk_Put_p.f (k + 1) a0 a1 a2) := by
  intro a0 a1 a2 k
  obtain ⟨ih0, ih1⟩ := chunk_Put_p.mono_l k
  unfold chunk_Put_p.f
  repeat' first
      | (with_reducible exact ih0 _ _ _ _)
      | (with_reducible exact ih1 _ _ _ _ _ _ _)
      | (with_reducible exact LeO.refl _)
      | (with_reducible exact LeO.none _)
      | (with_reducible refine LeO.ite ?_ ?_)
      | (with_reducible refine LeO.bind ?_ (fun _ => ?_))
      | exact ih0 _ _ _ _
      | exact ih1 _ _ _ _ _ _ _
      | exact LeO.none _
      | refine LeO.ite ?_ ?_
      | refine LeO.bind ?_ (fun _ => ?_)
def chunk_Put_p.T13 : Bool × List (List Nat × List Nat) := (true, [([], []), ([], []), ([1], [1]), ([], []), ([3], [3]), ([], []), ([4, 5], [4, 5]), ([6], [6]), ([7], [7]), ([2, 8], [2, 8]), ([0, 9], [0, 9]), ([10, 8, 0, 1, 2, 3, 4, 5, 6, 7, 8, 9, 10], [0, 10])])
def chunk_Put_p.B13 : List Nat := [0, 0, 2, 0, 8, 0, 56, 120, 248, 510, 1023, 2047]
theorem chunk_Put_p.tab13 : rtab .any (opsOf Try.f17 13) = chunk_Put_p.T13 := by kernel_rfl
theorem chunk_Put_p.bits13 : waitsOk chunk_Put_p.T13.2 chunk_Put_p.B13 = true := by kernel_rfl
set_option maxHeartbeats 8000000 in
set_option maxRecDepth 100000 in
theorem chunk_Put_p.calls (k : Nat) (a0_0 : Int) (A0_1 : Option Addr) (c0_1 : Nat) (l0_1 : List (S29)) (A0_2 : Option Addr) (c0_2 : Nat) (l0_2 : List Int) (r1 : ByteArray) (r2 : Int) (w : World) (hr0_1 : Kd.C k29 w A0_1 l0_1.length l0_1) (hc0_1 : l0_1.length ≤ c0_1) (hr0_2 : Kd.C (Kd.int .i64) w A0_2 l0_2.length l0_2) (hc0_2 : l0_2.length ≤ c0_2) (h : chunk_Put_p.f k a0_0 l0_1 l0_2 = some (r1, r2)) :
    Calls Try.prog 17 #[.agg #[.int .i64 a0_0, .slice A0_1 l0_1.length c0_1, .slice A0_2 l0_2.length c0_2]] w fun e w' => e = .returned (.tuple #[.string r1, .int .i64 r2]) ∧ Below w.heap.size w w' := by
  have hu25 := Try.underlying25
  have hu29 := Try.underlying29
  have HR0_1 := Aside0.mk hr0_1
  have HC0_1 := Aside0.mk hc0_1
  clear hr0_1 hc0_1
  have HR0_2 := Aside0.mk hr0_2
  have HC0_2 := Aside0.mk hc0_2
  clear hr0_2 hc0_2
  have HB := Aside0.mk (Below.refl w.heap.size w)
  have H : ((chunk_Check.f a0_0 l0_1 l0_2).bind fun t115 => (if t115 = 0 then (if a0_0 > 0 then ((some (([73] : List Int) : List Int)).bind fun y119 => ((scan_PutNum.f a0_0).bind fun t122 => (if (strOfNums y119).size + t122.size ≤ 9223372036854775807 then (chunk_Put_p.j0 k ((strOfNums y119) ++ t122) a0_0 l0_1 l0_2) else (none)))) else (chunk_Put_p.j0 k (strOfNums (([76] : List Int))) a0_0 l0_1 l0_2)) else (some ((⟨#[]⟩ : ByteArray), t115)))) = some (r1, r2) := h
  clear h
  replace H := Option.bind_eq_some_iff.mp H
  obtain ⟨t115, A20, H⟩ := H
  replace H : (if t115 = 0 then (if a0_0 > 0 then ((some (([73] : List Int) : List Int)).bind fun y119 => ((scan_PutNum.f a0_0).bind fun t122 => (if (strOfNums y119).size + t122.size ≤ 9223372036854775807 then (chunk_Put_p.j0 k ((strOfNums y119) ++ t122) a0_0 l0_1 l0_2) else (none)))) else (chunk_Put_p.j0 k (strOfNums (([76] : List Int))) a0_0 l0_1 l0_2)) else (some ((⟨#[]⟩ : ByteArray), t115))) = some (r1, r2) := H
  have A2 := Aside0.mk A20
  clear A20
  by_cases c3 : t115 = 0
  · rw [if_pos c3] at H
    have c3b0 : (t115 == 0) = true := beq_iff_eq.mpr c3
    have c3b1 : (t115 != 0) = false := bne_eq_false_iff_eq.mpr c3
    clear c3
    obtain ⟨y116, hy116⟩ : ∃ y_ : List Int, y_ = (([76] : List Int)) := ⟨_, rfl⟩
    replace H : (if a0_0 > 0 then ((some (([73] : List Int) : List Int)).bind fun y119 => ((scan_PutNum.f a0_0).bind fun t122 => (if (strOfNums y119).size + t122.size ≤ 9223372036854775807 then (chunk_Put_p.j0 k ((strOfNums y119) ++ t122) a0_0 l0_1 l0_2) else (none)))) else (chunk_Put_p.j0 k (strOfNums y116) a0_0 l0_1 l0_2)) = some (r1, r2) := by first | (rw [hy116]; with_reducible exact H) | (have H2_ := (Option.bind_some _ _).symm.trans H; rw [hy116]; with_reducible exact H2_) | (have H2_ := (Option.bind_some _ _).symm.trans H; with_reducible exact H2_) | with_reducible exact H | (rw [hy116]; exact H) | exact H
    have Ny116 := Aside0.mk hy116
    clear hy116
    have HC4 := Aside0.mk H
    clear H
    go_enter Try.func17, Try.ntmps17
    go_upto_if 17 with (first | ((with_reducible refine gate_dst (N := 1) rfl ?_); refine box_event ?hg (N := 1) ?hd (cs := #[.int .i64 a0_0, .slice A0_1 l0_1.length c0_1, .slice A0_2 l0_2.length c0_2]) (t := 25) ?hr ?_; (case hd => rfl); (case hg => rfl); (case hr => first | (go_simp; done) | (go_simp; rfl)); intro zad hg w5 hbox hb; have n0_ := M.upS HB hb; have n1_ := Aside0.mk (hbox); have n2_ := M.upG HB hg; have n3_ := M.upG HB hg; clear HB; have HB := n0_; have zae := n1_; have zaf := n2_; have zag := n3_; clear n0_ n1_ n2_ n3_; clear hb hbox hg; obtain ⟨zah, zai, zaj⟩ := M.bc3 (w := w5) (a := .int .i64 a0_0) (b := .slice A0_1 l0_1.length c0_1) (c := .slice A0_2 l0_2.length c0_2) zae.out; obtain ⟨zak, zal, zam⟩ := M.bf3 zae) | ((with_reducible refine gate_callee (f := 24) rfl ?_); refine M.goes (some 9) Try.func24 #[.agg #[.int .i64 a0_0, .slice A0_1 l0_1.length c0_1, .slice A0_2 l0_2.length c0_2]] rfl ?_; (with_reducible refine (chunk_Check.calls a0_0 _ _ l0_1 _ _ l0_2 t115 _ ?side1 ?side2 ?side3 ?side4 A2.out).mono ?_); (case side1 => exact M.cB HR0_1 HB); (case side2 => exact HC0_1.out); (case side3 => exact M.cB HR0_2 HB); (case side4 => exact HC0_2.out); rintro e w7 ⟨rfl, hb⟩; refine ⟨_, rfl, ?_⟩; have n0_ := M.bkB zae hb; have n1_ := M.upS HB hb; clear zae HB; have zae := n0_; have HB := n1_; clear n0_ n1_; (try clear hb)) | ((with_reducible refine gate_dst (N := 13) rfl ?_); refine Kd.R_lit (Kd.int .u8) _ 5 ?hg (N := 13) ?hd (xs := ([76] : List Int)) (inner := [.int .u8 76]) (ok := fun _ => True) (okp := fun _ => True) ?hr ?hp (fun _ hk => hk) trivial (Below.refl _ _) (Nat.le_refl _) (by simp) ?_; (case hd => rfl); (case hg => rfl); (case hr => first | (go_simp; done) | (go_simp; rfl)); (case hp => exact (Reps.one (show Kd.M (Kd.int .u8) _ _ _ 76 [.int .u8 76] from rfl) (Reps.none _ _))); intro v117 w8 ho9 hb hg_ hnew_; clear hg_ hnew_; (first | rw [← Ny116.out] at ho9 | (simp only [Int.reduceToNat] at ho9; rw [← Ny116.out] at ho9)); have n0_ := Aside0.mk (Kd.R_lower ho9 (below_size (M.up HB))); have n1_ := M.bkB zae hb; have n2_ := M.upS HB hb; clear zae HB; have HO118 := n0_; have zae := n1_; have HB := n2_; clear n0_ n1_ n2_; clear hb ho9; have hcv10 := own_string (P := Try.prog) Try.underlying63 Try.underlying5 Try.underlying9 (Kd.own_of_R HO118.out); obtain ⟨zan, zao, zap⟩ := M.bc3 (w := w8) (a := .int .i64 a0_0) (b := .slice A0_1 l0_1.length c0_1) (c := .slice A0_2 l0_2.length c0_2) zae.out; obtain ⟨zaq, zar, zas⟩ := M.bf3 zae))
    (try simp only [Act.put, List.setIfInBounds_toArray, List.set_cons_zero, List.set_cons_succ])
    go_cut [5] (fun v5 wc => ∃ (kq : Nat) (x5_3 : ByteArray), v5 = .string x5_3 ∧ Aside0 (chunk_Put_p.j0 kq x5_3 a0_0 l0_1 l0_2 = some (r1, r2)) ∧ Aside0 (kq ≤ k) ∧ Aside0 (wc.heap[zad]? = some (.cells #[.int .i64 a0_0, (.slice A0_1 l0_1.length c0_1), (.slice A0_2 l0_2.length c0_2)] 25 (0, 0))) ∧ Aside0 (Below w.heap.size w wc))
    case first =>
      have H := HC4.out
      clear HC4
      by_cases c12 : a0_0 > 0
      · rw [if_pos c12] at H
        have c12b0 : decide (0 < a0_0) = true := decide_eq_true c12
        clear c12
        (first | rw [c12b0] | (simp only [i64_w, i32_w]; rw [c12b0]) | skip)
        obtain ⟨y119, hy119⟩ : ∃ y_ : List Int, y_ = (([73] : List Int)) := ⟨_, rfl⟩
        replace H : ((scan_PutNum.f a0_0).bind fun t122 => (if (strOfNums y119).size + t122.size ≤ 9223372036854775807 then (chunk_Put_p.j0 k ((strOfNums y119) ++ t122) a0_0 l0_1 l0_2) else (none))) = some (r1, r2) := by first | (rw [hy119]; with_reducible exact H) | (have H2_ := (Option.bind_some _ _).symm.trans H; rw [hy119]; with_reducible exact H2_) | (have H2_ := (Option.bind_some _ _).symm.trans H; with_reducible exact H2_) | with_reducible exact H | (rw [hy119]; exact H) | exact H
        have Ny119 := Aside0.mk hy119
        clear hy119
        replace H := Option.bind_eq_some_iff.mp H
        obtain ⟨t122, A130, H⟩ := H
        replace H : (if (strOfNums y119).size + t122.size ≤ 9223372036854775807 then (chunk_Put_p.j0 k ((strOfNums y119) ++ t122) a0_0 l0_1 l0_2) else (none)) = some (r1, r2) := H
        have A13 := Aside0.mk A130
        clear A130
        by_cases c14 : (strOfNums y119).size + t122.size ≤ 9223372036854775807
        · rw [if_pos c14] at H
          have c14b0 := eq_true c14
          have c14b1 : decide ((strOfNums y119).size + t122.size ≤ 9223372036854775807) = true := decide_eq_true c14
          try have c14b2 : (9223372036854775807 < (strOfNums y119).size + t122.size) = False := eq_false (Nat.not_lt.2 c14)
          have H' := Aside0.mk H
          clear H
          try go_wp2
          have n0_ := Aside0.mk (Kd.R_drew HO118.out)
          have n1_ := Aside0.mk (blk_drew zae.out)
          have n2_ := Aside0.mk (below_drew1 HB.out)
          clear HO118 zae HB
          have HO118 := n0_
          have zae := n1_
          have HB := n2_
          clear n0_ n1_ n2_
          refine start_ (n := 7) (S := fun w' => w'.cell? ⟨zad, 0, none⟩ = some (.int .i64 a0_0) ∧ w'.cell? ⟨zad, 1, none⟩ = some (.slice A0_1 l0_1.length c0_1) ∧ w'.cell? ⟨zad, 2, none⟩ = some (.slice A0_2 l0_2.length c0_2)) (ds := []) #[false, false, false, false, false, false, false] (by kernel_rfl) rfl rfl ⟨(blk_cell zae.out 0).trans rfl, (blk_cell zae.out 1).trans rfl, (blk_cell zae.out 2).trans rfl⟩ (fun hHeld => ?_)
          generalize w8.drew = w15 at HO118 zae HB hHeld ⊢
          refine pure_ (i := 2) (N := some 20) (v := ?_) (a' := ?_) #[false, false, true, false, false, false, false] rfl rfl (by kernel_rfl) (fun _ _ _ h => h) (Or.inl ⟨by rfl, ?_⟩) ?_ ?_
          rotate_left
          · intro w'
            go_simp
            with_reducible rfl
          rotate_left
          · simp only [Act.put, List.setIfInBounds_toArray, List.set_cons_zero, List.set_cons_succ, i64_w, i32_w]
            rfl
          refine take_ (i := 3) (N := some 21) (v := ?_) (a' := ?_) #[false, false, true, true, false, false, false] rfl rfl (by kernel_rfl) (fun _ _ _ h => h) (Or.inl ⟨by rfl, ?_⟩) hHeld ?_ ?_
          rotate_left
          · rintro w' ⟨s0, s1, s2⟩
            go_simp
            with_reducible rfl
          rotate_left
          · simp only [Act.put, List.setIfInBounds_toArray, List.set_cons_zero, List.set_cons_succ, i64_w, i32_w]
            rfl
          refine join_ (σ := Value) 2 #[true, true, true, true, true, false, false] (fun s_ => [(18, s_), (19, .string (strOfNums y119)), (22, .string t122)]) (fun s_ w' => (w'.cell? ⟨zad, 0, none⟩ = some (.int .i64 a0_0) ∧ w'.cell? ⟨zad, 1, none⟩ = some (.slice A0_1 l0_1.length c0_1) ∧ w'.cell? ⟨zad, 2, none⟩ = some (.slice A0_2 l0_2.length c0_2)) ∧ (Kd.R (Kd.int .u8) 5 w' w.heap.size (fun k_ => some k_ ≠ (s_ : Value).ownBlock) v117 y116) ∧ (Kd.R (Kd.int .u8) 5 w' w.heap.size (fun k_ => some k_ ≠ (v117 : Value).ownBlock) s_ y119) ∧ (w'.heap[zad]? = some (.cells #[.int .i64 a0_0, .slice A0_1 l0_1.length c0_1, .slice A0_2 l0_2.length c0_2] 25 (0, 0))) ∧ (Below w.heap.size w w')) ?_ ?_
          rotate_left
          · intro hCont
            refine two_ (i := 0) (j := 4) (Ni := some 18) (Nj := some 22) #[true, false, true, true, false, false, false] #[false, false, true, true, true, false, false] rfl rfl rfl rfl (by kernel_rfl) (by decide) (by decide) (fun K hK => ?_) (fun K hK => ?_)
            · skip
              refine Kd.R_lit_step (Kd.int .u8) _ 5 ?hg (N := 18) ?hd (xs := ([73] : List Int)) (inner := [.int .u8 73]) (ok := fun _ => True) (okp := fun _ => True) ?hr ?hp (fun _ hk => hk) trivial (Below.refl _ _) (Nat.le_refl _) (by simp) ?_; (case hd => rfl); (case hg => rfl); (case hr => first | (go_simp; done) | (go_simp; rfl)); (case hp => exact (Reps.one (show Kd.M (Kd.int .u8) _ _ _ 73 [.int .u8 73] from rfl) (Reps.none _ _)))
              intro v120 w16 ho17 hb hg_ hnew_
              clear hg_ hnew_
              (first | rw [← Ny119.out] at ho17 | (simp only [Int.reduceToNat] at ho17; rw [← Ny119.out] at ho17))
              have n0_ := Aside0.mk (Kd.R_elder' (M.ro HO118) (Kd.R_base ho17) hb)
              have n1_ := Aside0.mk (Kd.R_lower (Kd.R_new' ho17 (Kd.R_lt (M.ro HO118))) (below_size (M.up HB)))
              have n2_ := M.bkB zae hb
              have n3_ := M.upS HB hb
              clear HO118 zae HB
              have HO118 := n0_
              have HO121 := n1_
              have zae := n2_
              have HB := n3_
              clear n0_ n1_ n2_ n3_
              clear hb ho17
              refine hK.out _ _ ⟨(blk_cell zae.out 0).trans rfl, (blk_cell zae.out 1).trans rfl, (blk_cell zae.out 2).trans rfl⟩ (fun hHeld => ?_)
              clear hK K
              refine norm_ (a' := ?_) ?_ ?_
              rotate_left
              · show Act.put _ (some 18) _ = _
                simp only [Act.put, List.setIfInBounds_toArray, List.set_cons_zero, List.set_cons_succ, i64_w, i32_w]
                rfl
              refine two_ (i := 1) (j := 4) (Ni := some 19) (Nj := some 22) #[true, true, true, true, false, false, false] #[true, false, true, true, true, false, false] rfl rfl rfl rfl (by kernel_rfl) (by decide) (by decide) (fun K hK => ?_) (fun K hK => ?_)
              · skip
                have hcv18 := own_string (P := Try.prog) Try.underlying63 Try.underlying5 Try.underlying9 (Kd.own_of_R HO121.out)
                refine value_ (w1 := ?_) (v := ?_) (by rfl) rfl ?_ ?_
                rotate_left 2
                · go_simp
                  constructor
                  · rfl
                  · rfl
                clear hcv18
                refine hK.out _ _ ⟨(blk_cell zae.out 0).trans rfl, (blk_cell zae.out 1).trans rfl, (blk_cell zae.out 2).trans rfl⟩ (fun hHeld => ?_)
                clear hK K
                refine norm_ (a' := ?_) ?_ ?_
                rotate_left
                · show Act.put _ (some 19) _ = _
                  simp only [Act.put, List.setIfInBounds_toArray, List.set_cons_zero, List.set_cons_succ, i64_w, i32_w]
                  rfl
                refine one_ (i := 4) (N := some 22) #[true, true, true, true, true, false, false] rfl rfl (by kernel_rfl) (by decide) (fun K hK => ?_)
                refine goes_ Try.func30 (by kernel_rfl) rfl #[.int .i64 a0_0] (by rfl) rfl rfl (by (try simp only [List.map_toArray, List.map_cons, List.map_nil]); first | done | rfl | (simp only [List.length_drop, List.length_take]; rfl)) ?_
                with_reducible refine (scan_PutNum.calls a0_0 t122 _ A13.out).mono ?_
                rintro e w19 ⟨rfl, hb⟩
                refine ⟨_, rfl, ?_⟩
                have n0_ := M.roB HO118 hb
                have n1_ := M.roB HO121 hb
                have n2_ := M.bkB zae hb
                have n3_ := M.upS HB hb
                clear HO118 HO121 zae HB
                have HO118 := n0_
                have HO121 := n1_
                have zae := n2_
                have HB := n3_
                clear n0_ n1_ n2_ n3_
                (try clear hb)
                (try clear hb2)
                (try clear hk)
                (try clear hi)
                refine hK.out _ _ ⟨(blk_cell zae.out 0).trans rfl, (blk_cell zae.out 1).trans rfl, (blk_cell zae.out 2).trans rfl⟩ (fun hHeld => ?_)
                clear hK K
                refine norm_ (a' := ?_) ?_ ?_
                rotate_left
                · show Act.put _ (some 22) _ = _
                  simp only [Act.put, List.setIfInBounds_toArray, List.set_cons_zero, List.set_cons_succ, i64_w, i32_w]
                  rfl
                exact norm_ (by simp only [putAll, Act.put, List.setIfInBounds_toArray, List.set_cons_zero, List.set_cons_succ]) (hCont (v120) _ ⟨hHeld, (by (with_reducible repeat (first | apply Kd.R_alloc | apply Kd.R_drewN | apply Kd.R_drew)); exact Kd.R_mono HO118.out (fun _ hk => hk.2)), (by (with_reducible repeat (first | apply Kd.R_alloc | apply Kd.R_drewN | apply Kd.R_drew)); exact Kd.R_mono HO121.out (fun _ hk => hk.2)), (M.bk zae), (M.up HB)⟩)
              · skip
                refine goes_ Try.func30 (by kernel_rfl) rfl #[.int .i64 a0_0] (by rfl) rfl rfl (by (try simp only [List.map_toArray, List.map_cons, List.map_nil]); first | done | rfl | (simp only [List.length_drop, List.length_take]; rfl)) ?_
                with_reducible refine (scan_PutNum.calls a0_0 t122 _ A13.out).mono ?_
                rintro e w18 ⟨rfl, hb⟩
                refine ⟨_, rfl, ?_⟩
                have n0_ := M.roB HO118 hb
                have n1_ := M.roB HO121 hb
                have n2_ := M.bkB zae hb
                have n3_ := M.upS HB hb
                clear HO118 HO121 zae HB
                have HO118 := n0_
                have HO121 := n1_
                have zae := n2_
                have HB := n3_
                clear n0_ n1_ n2_ n3_
                (try clear hb)
                (try clear hb2)
                (try clear hk)
                (try clear hi)
                refine hK.out _ _ ⟨(blk_cell zae.out 0).trans rfl, (blk_cell zae.out 1).trans rfl, (blk_cell zae.out 2).trans rfl⟩ (fun hHeld => ?_)
                clear hK K
                refine norm_ (a' := ?_) ?_ ?_
                rotate_left
                · show Act.put _ (some 22) _ = _
                  simp only [Act.put, List.setIfInBounds_toArray, List.set_cons_zero, List.set_cons_succ, i64_w, i32_w]
                  rfl
                refine one_ (i := 1) (N := some 19) #[true, true, true, true, true, false, false] rfl rfl (by kernel_rfl) (by decide) (fun K hK => ?_)
                have hcv19 := own_string (P := Try.prog) Try.underlying63 Try.underlying5 Try.underlying9 (Kd.own_of_R HO121.out)
                refine value_ (w1 := ?_) (v := ?_) (by rfl) rfl ?_ ?_
                rotate_left 2
                · go_simp
                  constructor
                  · rfl
                  · rfl
                clear hcv19
                refine hK.out _ _ ⟨(blk_cell zae.out 0).trans rfl, (blk_cell zae.out 1).trans rfl, (blk_cell zae.out 2).trans rfl⟩ (fun hHeld => ?_)
                clear hK K
                refine norm_ (a' := ?_) ?_ ?_
                rotate_left
                · show Act.put _ (some 19) _ = _
                  simp only [Act.put, List.setIfInBounds_toArray, List.set_cons_zero, List.set_cons_succ, i64_w, i32_w]
                  rfl
                exact norm_ (by simp only [putAll, Act.put, List.setIfInBounds_toArray, List.set_cons_zero, List.set_cons_succ]) (hCont (v120) _ ⟨hHeld, (by (with_reducible repeat (first | apply Kd.R_alloc | apply Kd.R_drewN | apply Kd.R_drew)); exact Kd.R_mono HO118.out (fun _ hk => hk.2)), (by (with_reducible repeat (first | apply Kd.R_alloc | apply Kd.R_drewN | apply Kd.R_drew)); exact Kd.R_mono HO121.out (fun _ hk => hk.2)), (M.bk zae), (M.up HB)⟩)
            · skip
              refine goes_ Try.func30 (by kernel_rfl) rfl #[.int .i64 a0_0] (by rfl) rfl rfl (by (try simp only [List.map_toArray, List.map_cons, List.map_nil]); first | done | rfl | (simp only [List.length_drop, List.length_take]; rfl)) ?_
              with_reducible refine (scan_PutNum.calls a0_0 t122 _ A13.out).mono ?_
              rintro e w16 ⟨rfl, hb⟩
              refine ⟨_, rfl, ?_⟩
              have n0_ := M.roB HO118 hb
              have n1_ := M.bkB zae hb
              have n2_ := M.upS HB hb
              clear HO118 zae HB
              have HO118 := n0_
              have zae := n1_
              have HB := n2_
              clear n0_ n1_ n2_
              (try clear hb)
              (try clear hb2)
              (try clear hk)
              (try clear hi)
              refine hK.out _ _ ⟨(blk_cell zae.out 0).trans rfl, (blk_cell zae.out 1).trans rfl, (blk_cell zae.out 2).trans rfl⟩ (fun hHeld => ?_)
              clear hK K
              refine norm_ (a' := ?_) ?_ ?_
              rotate_left
              · show Act.put _ (some 22) _ = _
                simp only [Act.put, List.setIfInBounds_toArray, List.set_cons_zero, List.set_cons_succ, i64_w, i32_w]
                rfl
              refine one_ (i := 0) (N := some 18) #[true, false, true, true, true, false, false] rfl rfl (by kernel_rfl) (by decide) (fun K hK => ?_)
              refine Kd.R_lit_step (Kd.int .u8) _ 5 ?hg (N := 18) ?hd (xs := ([73] : List Int)) (inner := [.int .u8 73]) (ok := fun _ => True) (okp := fun _ => True) ?hr ?hp (fun _ hk => hk) trivial (Below.refl _ _) (Nat.le_refl _) (by simp) ?_; (case hd => rfl); (case hg => rfl); (case hr => first | (go_simp; done) | (go_simp; rfl)); (case hp => exact (Reps.one (show Kd.M (Kd.int .u8) _ _ _ 73 [.int .u8 73] from rfl) (Reps.none _ _)))
              intro v120 w17 ho18 hb hg_ hnew_
              clear hg_ hnew_
              (first | rw [← Ny119.out] at ho18 | (simp only [Int.reduceToNat] at ho18; rw [← Ny119.out] at ho18))
              have n0_ := Aside0.mk (Kd.R_elder' (M.ro HO118) (Kd.R_base ho18) hb)
              have n1_ := Aside0.mk (Kd.R_lower (Kd.R_new' ho18 (Kd.R_lt (M.ro HO118))) (below_size (M.up HB)))
              have n2_ := M.bkB zae hb
              have n3_ := M.upS HB hb
              clear HO118 zae HB
              have HO118 := n0_
              have HO121 := n1_
              have zae := n2_
              have HB := n3_
              clear n0_ n1_ n2_ n3_
              clear hb ho18
              refine hK.out _ _ ⟨(blk_cell zae.out 0).trans rfl, (blk_cell zae.out 1).trans rfl, (blk_cell zae.out 2).trans rfl⟩ (fun hHeld => ?_)
              clear hK K
              refine norm_ (a' := ?_) ?_ ?_
              rotate_left
              · show Act.put _ (some 18) _ = _
                simp only [Act.put, List.setIfInBounds_toArray, List.set_cons_zero, List.set_cons_succ, i64_w, i32_w]
                rfl
              refine one_ (i := 1) (N := some 19) #[true, true, true, true, true, false, false] rfl rfl (by kernel_rfl) (by decide) (fun K hK => ?_)
              have hcv19 := own_string (P := Try.prog) Try.underlying63 Try.underlying5 Try.underlying9 (Kd.own_of_R HO121.out)
              refine value_ (w1 := ?_) (v := ?_) (by rfl) rfl ?_ ?_
              rotate_left 2
              · go_simp
                constructor
                · rfl
                · rfl
              clear hcv19
              refine hK.out _ _ ⟨(blk_cell zae.out 0).trans rfl, (blk_cell zae.out 1).trans rfl, (blk_cell zae.out 2).trans rfl⟩ (fun hHeld => ?_)
              clear hK K
              refine norm_ (a' := ?_) ?_ ?_
              rotate_left
              · show Act.put _ (some 19) _ = _
                simp only [Act.put, List.setIfInBounds_toArray, List.set_cons_zero, List.set_cons_succ, i64_w, i32_w]
                rfl
              exact norm_ (by simp only [putAll, Act.put, List.setIfInBounds_toArray, List.set_cons_zero, List.set_cons_succ]) (hCont (v120) _ ⟨hHeld, (by (with_reducible repeat (first | apply Kd.R_alloc | apply Kd.R_drewN | apply Kd.R_drew)); exact Kd.R_mono HO118.out (fun _ hk => hk.2)), (by (with_reducible repeat (first | apply Kd.R_alloc | apply Kd.R_drewN | apply Kd.R_drew)); exact Kd.R_mono HO121.out (fun _ hk => hk.2)), (M.bk zae), (M.up HB)⟩)
          rintro v120 w20 ⟨hS_, h0_, h1_, h2_, h3_⟩
          have n0_ : Aside0 (Kd.R (Kd.int .u8) 5 w20 w.heap.size (fun k_ => some k_ ≠ (v120 : Value).ownBlock) v117 y116) := ⟨h0_⟩
          have n1_ : Aside0 (Kd.R (Kd.int .u8) 5 w20 w.heap.size (fun k_ => some k_ ≠ (v117 : Value).ownBlock) v120 y119) := ⟨h1_⟩
          have n2_ : Aside0 (w20.heap[zad]? = some (.cells #[.int .i64 a0_0, .slice A0_1 l0_1.length c0_1, .slice A0_2 l0_2.length c0_2] 25 (0, 0))) := ⟨h2_⟩
          have n3_ : Aside0 (Below w.heap.size w w20) := ⟨h3_⟩
          clear HO118 zae HB
          clear h0_ h1_ h2_ h3_
          have HO118 := n0_
          have HO121 := n1_
          have zae := n2_
          have HB := n3_
          clear n0_ n1_ n2_ n3_
          have hHeld : w20.cell? ⟨zad, 0, none⟩ = some (.int .i64 a0_0) ∧ w20.cell? ⟨zad, 1, none⟩ = some (.slice A0_1 l0_1.length c0_1) ∧ w20.cell? ⟨zad, 2, none⟩ = some (.slice A0_2 l0_2.length c0_2) := hS_
          refine norm_ (a' := ?_) ?_ ?_
          rotate_left
          · simp only [putAll, Act.put, List.setIfInBounds_toArray, List.set_cons_zero, List.set_cons_succ]
            rfl
          refine pure_ (i := 5) (N := some 23) (v := ?_) (a' := ?_) #[true, true, true, true, true, true, false] rfl rfl (by kernel_rfl) (fun _ _ _ h => h) (Or.inl ⟨by rfl, ?_⟩) ?_ ?_
          rotate_left
          · intro w'
            go_simp
            with_reducible rfl
          rotate_left
          · simp only [Act.put, List.setIfInBounds_toArray, List.set_cons_zero, List.set_cons_succ, i64_w, i32_w]
            rfl
          refine pure_ (i := 6) (N := some 5) (v := ?_) (a' := ?_) #[true, true, true, true, true, true, true] rfl rfl (by kernel_rfl) (fun _ _ _ h => h) (Or.inl ⟨by rfl, ?_⟩) ?_ ?_
          rotate_left
          · intro w'
            go_simp
            with_reducible rfl
          rotate_left
          · simp only [Act.put, List.setIfInBounds_toArray, List.set_cons_zero, List.set_cons_succ, i64_w, i32_w]
            rfl
          refine done_ (by kernel_rfl) ?_
          try go_wp2
          go_meet
          case rel => exact ⟨_, ((strOfNums y119) ++ t122), (by first | rfl | (simp; done) | (simp [*]; done) | (simp [M.isEmpty_bne]; done)), H', ⟨by first | omega | exact Nat.le_refl _⟩, ⟨by (with_reducible repeat (first | refine blk_drewN ?_ _ | refine blk_drew ?_ | refine blk_alloc ?_ _)); exact zae.out⟩, ⟨M.up HB⟩⟩
        · rw [if_neg c14] at H
          exact absurd H (by simp)
      · rw [if_neg c12] at H
        have c12b0 : decide (0 < a0_0) = false := decide_eq_false c12
        clear c12
        (first | rw [c12b0] | (simp only [i64_w, i32_w]; rw [c12b0]) | skip)
        have H' := Aside0.mk H
        clear H
        go_wp2
        go_meet
        case rel => exact ⟨_, (strOfNums y116), (by first | rfl | (simp; done) | (simp [*]; done) | (simp [M.isEmpty_bne]; done)), H', ⟨by first | omega | exact Nat.le_refl _⟩, ⟨by (with_reducible repeat (first | refine blk_drewN ?_ _ | refine blk_drew ?_ | refine blk_alloc ?_ _)); exact zae.out⟩, ⟨M.up HB⟩⟩
    case rest =>
      clear HC4
      try clear c1
      try clear hcv1
      try clear c2
      try clear p2
      try clear c3
      try clear c3b0
      try clear c3b1
      try clear hcv10
      try clear c12
      try clear c12b0
      try clear c14
      try clear c14b0
      try clear c14b1
      try clear c14b2
      try clear c17
      try clear hcv18
      try clear hcv19
      try clear zan
      try clear zao
      try clear zap
      try clear zah
      try clear zai
      try clear zaj
      try clear zaq
      try clear zar
      try clear zas
      try clear zak
      try clear zal
      try clear zam
      obtain ⟨kq, x5_3, rfl, HA, HJ3, zae, HB⟩ := hcut
      cases kq with
      | zero => exact absurd HA.out (by simp [chunk_Put_p.j0])
      | succ kj3 =>
        have H := HA.out
        clear HA
        simp only [chunk_Put_p.j0] at H
        replace H := Option.bind_eq_some_iff.mp H
        obtain ⟨t123, A210, H⟩ := H
        replace H : (if x5_3.size + t123.size ≤ 9223372036854775807 then (chunk_Put_p.l0 kj3 (x5_3 ++ t123) l0_1 (l0_1.length : Int) 0 a0_0 l0_1 l0_2) else (none)) = some (r1, r2) := H
        have A21 := Aside0.mk A210
        clear A210
        by_cases c22 : x5_3.size + t123.size ≤ 9223372036854775807
        · rw [if_pos c22] at H
          have c22b0 := eq_true c22
          have c22b1 : decide (x5_3.size + t123.size ≤ 9223372036854775807) = true := decide_eq_true c22
          try have c22b2 : (9223372036854775807 < x5_3.size + t123.size) = False := eq_false (Nat.not_lt.2 c22)
          have H' := Aside0.mk H
          clear H
          obtain ⟨zat, zau, zav⟩ := M.bc3 (w := wc) (a := .int .i64 a0_0) (b := .slice A0_1 l0_1.length c0_1) (c := .slice A0_2 l0_2.length c0_2) zae.out
          obtain ⟨zaw, zax, zay⟩ := M.bf3 zae
          go_wp2_with (first | ((with_reducible refine gate_callee (f := 30) rfl ?_); refine M.goes (some 28) Try.func30 #[.int .i64 (l0_1.length : Int)] rfl ?_; (with_reducible refine (scan_PutNum.calls (l0_1.length : Int) t123 _ A21.out).mono ?_); rintro e w24 ⟨rfl, hb⟩; refine ⟨_, rfl, ?_⟩; have n0_ := M.bkB zae hb; have n1_ := M.upS HB hb; clear zae HB; have zae := n0_; have HB := n1_; clear n0_ n1_; (try clear hb); obtain ⟨zaz, zaA, zaB⟩ := M.bc3 (w := w24) (a := .int .i64 a0_0) (b := .slice A0_1 l0_1.length c0_1) (c := .slice A0_2 l0_2.length c0_2) zae.out; obtain ⟨zaC, zaD, zaE⟩ := M.bf3 zae))
          go_loopg [5, 33] kj3 (fun kq v5 v33 w' => ∃ (x5_2 : ByteArray) (x33_2 : Int), v5 = .string x5_2 ∧ v33 = .int .i64 x33_2 ∧ Aside0 (chunk_Put_p.l0 kq x5_2 l0_1 (l0_1.length : Int) x33_2 a0_0 l0_1 l0_2 = some (r1, r2)) ∧ Aside0 (kq ≤ kj3) ∧ Aside0 (w'.heap[zad]? = some (.cells #[.int .i64 a0_0, (.slice A0_1 l0_1.length c0_1), (.slice A0_2 l0_2.length c0_2)] 25 (0, 0))) ∧ Aside0 (Below w.heap.size w w'))
          case atStart => exact ⟨(x5_3 ++ t123), (0), (by first | rfl | (simp; done) | (simp [*]; done) | (simp [M.isEmpty_bne]; done)), (by first | rfl | (simp; done) | (simp [*]; done) | (simp [M.isEmpty_bne]; done)), H', ⟨Nat.le_refl _⟩, ⟨by (with_reducible repeat (first | refine blk_drewN ?_ _ | refine blk_drew ?_ | refine blk_alloc ?_ _)); exact zae.out⟩, ⟨M.up HB⟩⟩
          case round =>
            clear H'
            try clear c1
            try clear hcv1
            try clear c2
            try clear p2
            try clear c3
            try clear c3b0
            try clear c3b1
            try clear hcv10
            try clear c12
            try clear c12b0
            try clear c14
            try clear c14b0
            try clear c14b1
            try clear c14b2
            try clear c17
            try clear hcv18
            try clear hcv19
            try clear c22
            try clear c22b0
            try clear c22b1
            try clear c22b2
            try clear c24
            try clear zan
            try clear zao
            try clear zap
            try clear zat
            try clear zau
            try clear zav
            try clear zaz
            try clear zaA
            try clear zaB
            try clear zah
            try clear zai
            try clear zaj
            try clear zaq
            try clear zar
            try clear zas
            try clear zaw
            try clear zax
            try clear zay
            try clear zaC
            try clear zaD
            try clear zaE
            try clear zak
            try clear zal
            try clear zam
            try clear p2
            obtain ⟨x5_2, x33_2, rfl, rfl, HA, HK2, zae, HB⟩ := hrel
            cases gk with
            | zero => exact absurd HA.out (by simp [chunk_Put_p.l0])
            | succ k2 =>
              have H := HA.out
              clear HA
              simp only [chunk_Put_p.l0] at H
              by_cases c26 : x33_2 < (l0_1.length : Int)
              · rw [if_pos c26] at H
                have c26b0 : decide (x33_2 < (l0_1.length : Int)) = true := decide_eq_true c26
                clear c26
                by_cases c27 : 0 ≤ x33_2
                · rw [if_pos c27] at H
                  have c27b0 : decide (0 ≤ x33_2) = true := decide_eq_true c27
                  clear c27
                  by_cases c28 : x33_2 < (l0_1.length : Int)
                  · rw [if_pos c28] at H
                    have c28b0 : decide (x33_2 < (l0_1.length : Int)) = true := decide_eq_true c28
                    clear c28
                    replace H := Option.bind_eq_some_iff.mp H
                    obtain ⟨t126, A290, H⟩ := H
                    replace H : (if x5_2.size + t126.size ≤ 9223372036854775807 then (if a0_0 > 0 then (if x33_2 < (l0_2.length : Int) then ((scan_PutNum.f (rd l0_2 x33_2)).bind fun t128 => (if ((rd_T29 l0_1 x33_2).f1).size + t128.size ≤ 9223372036854775807 then (if (x5_2 ++ t126).size + (((rd_T29 l0_1 x33_2).f1) ++ t128).size ≤ 9223372036854775807 then (chunk_Put_p.l0 k2 ((x5_2 ++ t126) ++ (((rd_T29 l0_1 x33_2).f1) ++ t128)) l0_1 (l0_1.length : Int) (wrap64 (x33_2 + 1)) a0_0 l0_1 l0_2) else (none)) else (none))) else (none)) else ((scan_PutText.f ((rd_T29 l0_1 x33_2).f1)).bind fun t129 => (if (x5_2 ++ t126).size + t129.size ≤ 9223372036854775807 then (chunk_Put_p.l0 k2 ((x5_2 ++ t126) ++ t129) l0_1 (l0_1.length : Int) (wrap64 (x33_2 + 1)) a0_0 l0_1 l0_2) else (none)))) else (none)) = some (r1, r2) := H
                    have A29 := Aside0.mk A290
                    clear A290
                    by_cases c30 : x5_2.size + t126.size ≤ 9223372036854775807
                    · rw [if_pos c30] at H
                      have c30b0 := eq_true c30
                      have c30b1 : decide (x5_2.size + t126.size ≤ 9223372036854775807) = true := decide_eq_true c30
                      try have c30b2 : (9223372036854775807 < x5_2.size + t126.size) = False := eq_false (Nat.not_lt.2 c30)
                      by_cases c31 : a0_0 > 0
                      · rw [if_pos c31] at H
                        have c31b0 : decide (0 < a0_0) = true := decide_eq_true c31
                        clear c31
                        by_cases c32 : x33_2 < (l0_2.length : Int)
                        · rw [if_pos c32] at H
                          have c32b0 : decide (x33_2 < (l0_2.length : Int)) = true := decide_eq_true c32
                          clear c32
                          replace H := Option.bind_eq_some_iff.mp H
                          obtain ⟨t128, A330, H⟩ := H
                          replace H : (if ((rd_T29 l0_1 x33_2).f1).size + t128.size ≤ 9223372036854775807 then (if (x5_2 ++ t126).size + (((rd_T29 l0_1 x33_2).f1) ++ t128).size ≤ 9223372036854775807 then (chunk_Put_p.l0 k2 ((x5_2 ++ t126) ++ (((rd_T29 l0_1 x33_2).f1) ++ t128)) l0_1 (l0_1.length : Int) (wrap64 (x33_2 + 1)) a0_0 l0_1 l0_2) else (none)) else (none)) = some (r1, r2) := H
                          have A33 := Aside0.mk A330
                          clear A330
                          by_cases c34 : ((rd_T29 l0_1 x33_2).f1).size + t128.size ≤ 9223372036854775807
                          · rw [if_pos c34] at H
                            have c34b0 := eq_true c34
                            have c34b1 : decide (((rd_T29 l0_1 x33_2).f1).size + t128.size ≤ 9223372036854775807) = true := decide_eq_true c34
                            try have c34b2 : (9223372036854775807 < ((rd_T29 l0_1 x33_2).f1).size + t128.size) = False := eq_false (Nat.not_lt.2 c34)
                            by_cases c35 : (x5_2 ++ t126).size + (((rd_T29 l0_1 x33_2).f1) ++ t128).size ≤ 9223372036854775807
                            · rw [if_pos c35] at H
                              have c35b0 := eq_true c35
                              have c35b1 : decide ((x5_2 ++ t126).size + (((rd_T29 l0_1 x33_2).f1) ++ t128).size ≤ 9223372036854775807) = true := decide_eq_true c35
                              try have c35b2 : (9223372036854775807 < (x5_2 ++ t126).size + (((rd_T29 l0_1 x33_2).f1) ++ t128).size) = False := eq_false (Nat.not_lt.2 c35)
                              have c35m := c35
                              (try simp only [ByteArray.size_append] at c35m)
                              have c35b3 := eq_true c35m
                              have c35b4 := eq_false (Nat.not_lt.2 c35m)
                              have c35b5 := decide_eq_true c35m
                              have H' := Aside0.mk H
                              clear H
                              have p124 : 0 ≤ (x33_2 : Int) := of_decide_eq_true (by first | (with_reducible assumption) | assumption)
                              have q124 : x33_2 < (l0_1.length : Int) := of_decide_eq_true (by first | (with_reducible assumption) | assumption)
                              obtain ⟨ad124, e124, hx124_0, hx124_1⟩ := at_T29 HR0_1.out x33_2 p124 q124
                              cases e124
                              replace hx124_0 := (HB.out.cell (World.block_lt_of_cell? w _ hx124_0)).trans hx124_0
                              replace hx124_1 := (HB.out.cell (World.block_lt_of_cell? w _ hx124_1)).trans hx124_1
                              replace p124 := eq_true p124
                              replace q124 := eq_true q124
                              try go_wp2_with (first | ((with_reducible refine gate_dst (N := 7) rfl ?_); refine box_event ?hg (N := 7) ?hd (cs := #[.string (⟨#[]⟩ : ByteArray), .string (⟨#[]⟩ : ByteArray)]) (t := 29) ?hr ?_; (case hd => rfl); (case hg => rfl); (case hr => first | (go_simp; done) | (go_simp; rfl)); intro zaF hg w36 hbox hb; have n0_ := M.bkB zae hb; have n1_ := M.upS HB hb; have n2_ := Aside0.mk (hbox); have n3_ := M.upG HB hg; have n4_ := M.upG HB hg; have n5_ := M.bkL zae hg; have n6_ := M.bkG zae hg; clear zae HB; have zae := n0_; have HB := n1_; have zaG := n2_; have zaH := n3_; have zaI := n4_; have zaJ := n5_; have zaK := n6_; clear n0_ n1_ n2_ n3_ n4_ n5_ n6_; clear hb hbox hg; have zaL := zaK.out; have zaM := zaJ.out; obtain ⟨zaN, zaO⟩ := M.bc2 (w := w36) (a := .string (⟨#[]⟩ : ByteArray)) (b := .string (⟨#[]⟩ : ByteArray)) zaG.out; obtain ⟨zaP, zaQ⟩ := M.bf2 zaG) | ((with_reducible refine gate_callee (f := 31) rfl ?_); refine M.goes (some 41) Try.func31 #[.string ((rd_T29 l0_1 x33_2).f0)] rfl ?_; (with_reducible refine (scan_PutText.calls ((rd_T29 l0_1 x33_2).f0) t126 _ A29.out).mono ?_); rintro e w39 ⟨rfl, hb⟩; refine ⟨_, rfl, ?_⟩; have n0_ := Aside0.mk (blk_below (g := zad) (o := .cells #[.int .i64 a0_0, .slice (some ad124) l0_1.length c0_1, .slice A0_2 l0_2.length c0_2] 25 (0, 0)) (by (with_reducible repeat (first | refine blk_drewN ?_ _ | refine blk_drew ?_ | refine blk_alloc ?_ _)); refine blk_far ?_ zaJ.out _; (with_reducible repeat (first | refine blk_drewN ?_ _ | refine blk_drew ?_ | refine blk_alloc ?_ _)); refine blk_far ?_ zaJ.out _; (with_reducible repeat (first | refine blk_drewN ?_ _ | refine blk_drew ?_ | refine blk_alloc ?_ _)); exact zae.out) hb); have n1_ := Aside0.mk (blk_below (g := zaF) (o := .cells #[.string ((rd_T29 l0_1 x33_2).f0), .string ((rd_T29 l0_1 x33_2).f1)] 29 (0, 0)) (by (with_reducible repeat (first | refine blk_drewN ?_ _ | refine blk_drew ?_ | refine blk_alloc ?_ _)); refine blk_put (cs := #[.string ((rd_T29 l0_1 x33_2).f0), .string (⟨#[]⟩ : ByteArray)]) ?_ 1 _ rfl; (with_reducible repeat (first | refine blk_drewN ?_ _ | refine blk_drew ?_ | refine blk_alloc ?_ _)); refine blk_put (cs := #[.string (⟨#[]⟩ : ByteArray), .string (⟨#[]⟩ : ByteArray)]) ?_ 0 _ rfl; (with_reducible repeat (first | refine blk_drewN ?_ _ | refine blk_drew ?_ | refine blk_alloc ?_ _)); exact zaG.out) hb); have n2_ := M.upS HB hb; clear zae zaG HB; have zae := n0_; have zaG := n1_; have HB := n2_; clear n0_ n1_ n2_; (try clear hb); obtain ⟨zaR, zaS, zaT⟩ := M.bc3 (w := w39) (a := .int .i64 a0_0) (b := .slice (some ad124) l0_1.length c0_1) (c := .slice A0_2 l0_2.length c0_2) zae.out; obtain ⟨zaU, zaV, zaW⟩ := M.bf3 zae))
                              have n0_ := Aside0.mk (blk_drew zae.out)
                              have n1_ := Aside0.mk (blk_drew zaG.out)
                              have n2_ := Aside0.mk (below_drew1 HB.out)
                              clear zae zaG HB
                              have zae := n0_
                              have zaG := n1_
                              have HB := n2_
                              clear n0_ n1_ n2_
                              have p127 : 0 ≤ (x33_2 : Int) := of_decide_eq_true (by first | (with_reducible assumption) | assumption)
                              have q127 : x33_2 < (l0_2.length : Int) := of_decide_eq_true (by first | (with_reducible assumption) | assumption)
                              obtain ⟨ad127, e127, hx127_0⟩ := Kd.at_int HR0_2.out x33_2 p127 q127
                              have hw127_0 := hx127_0
                              cases e127
                              replace hx127_0 := (HB.out.cell (World.block_lt_of_cell? w _ hx127_0)).trans hx127_0
                              replace p127 := eq_true p127
                              replace q127 := eq_true q127
                              refine start_ (n := 12) (S := fun w' => w'.cell? ⟨zaF, 0, none⟩ = some (.string ((rd_T29 l0_1 x33_2).f0)) ∧ w'.cell? ⟨zaF, 1, none⟩ = some (.string ((rd_T29 l0_1 x33_2).f1)) ∧ w'.cell? ⟨zad, 0, none⟩ = some (.int .i64 a0_0) ∧ w'.cell? ⟨zad, 1, none⟩ = some (.slice (some ad124) l0_1.length c0_1) ∧ w'.cell? ⟨zad, 2, none⟩ = some (.slice (some ad127) l0_2.length c0_2) ∧ w'.cell? (ad127.add (x33_2).toNat) = some (.int .i64 (rd l0_2 x33_2))) (ds := []) (M.tf [0, 12]) (by kernel_rfl) rfl rfl ⟨(blk_cell zaG.out 0).trans rfl, (blk_cell zaG.out 1).trans rfl, (blk_cell zae.out 0).trans rfl, (blk_cell zae.out 1).trans rfl, (blk_cell zae.out 2).trans rfl, ((HB.out.cell (World.block_lt_of_cell? w _ hw127_0)).trans hw127_0)⟩ (fun hHeld => ?_); refine with_tabW chunk_Put_p.tab13 chunk_Put_p.bits13 (fun HT_ HW_ => ?_)
                              generalize w39.drew = w41 at zae zaG HB hx127_0 hHeld ⊢
                              refine pure_ (i := 0) (N := some 46) (v := ?_) (a' := ?_) (M.tf [1, 11]) rfl rfl (any_of HT_.out (by kernel_rfl)) (fun _ _ _ h => h) (Or.inl ⟨by rfl, ?_⟩) ?_ ?_
                              rotate_left
                              · intro w'
                                go_simp
                                with_reducible rfl
                              rotate_left
                              · simp only [Act.put, List.setIfInBounds_toArray, List.set_cons_zero, List.set_cons_succ, i64_w, i32_w]
                                rfl
                              refine pure_ (i := 1) (N := some 47) (v := ?_) (a' := ?_) (M.tf [2, 10]) rfl rfl (any_of HT_.out (by kernel_rfl)) (fun _ _ _ h => h) (Or.inl ⟨by rfl, ?_⟩) ?_ ?_
                              rotate_left
                              · intro w'
                                go_simp
                                with_reducible rfl
                              rotate_left
                              · simp only [Act.put, List.setIfInBounds_toArray, List.set_cons_zero, List.set_cons_succ, i64_w, i32_w]
                                rfl
                              refine pure_ (i := 3) (N := some 49) (v := ?_) (a' := ?_) (M.tf [2, 1, 1, 8]) rfl rfl (any_of HT_.out (by kernel_rfl)) (fun _ _ _ h => h) (Or.inl ⟨by rfl, ?_⟩) ?_ ?_
                              rotate_left
                              · intro w'
                                go_simp
                                with_reducible rfl
                              rotate_left
                              · simp only [Act.put, List.setIfInBounds_toArray, List.set_cons_zero, List.set_cons_succ, i64_w, i32_w]
                                rfl
                              refine pure_ (i := 5) (N := some 51) (v := ?_) (a' := ?_) (M.tf [2, 1, 1, 1, 1, 6]) rfl rfl (any_of HT_.out (by kernel_rfl)) (fun _ _ _ h => h) (Or.inl ⟨by rfl, ?_⟩) ?_ ?_
                              rotate_left
                              · intro w'
                                go_simp
                                with_reducible rfl
                              rotate_left
                              · simp only [Act.put, List.setIfInBounds_toArray, List.set_cons_zero, List.set_cons_succ, i64_w, i32_w]
                                rfl
                              refine take_ (i := 2) (N := some 48) (v := ?_) (a' := ?_) (M.tf [4, 1, 1, 6]) rfl rfl (take_ofW HT_.out HW_.out (by kernel_rfl)) (fun _ _ _ h => h) (Or.inl ⟨by rfl, ?_⟩) hHeld ?_ ?_
                              rotate_left
                              · rintro w' ⟨s0, s1, s2, s3, s4, s5⟩
                                go_simp
                                with_reducible rfl
                              rotate_left
                              · simp only [Act.put, List.setIfInBounds_toArray, List.set_cons_zero, List.set_cons_succ, i64_w, i32_w]
                                rfl
                              refine take_ (i := 4) (N := some 50) (v := ?_) (a' := ?_) (M.tf [6, 6]) rfl rfl (take_ofW HT_.out HW_.out (by kernel_rfl)) (fun _ _ _ h => h) (Or.inl ⟨by rfl, ?_⟩) hHeld ?_ ?_
                              rotate_left
                              · rintro w' ⟨s0, s1, s2, s3, s4, s5⟩
                                go_simp
                                with_reducible rfl
                              rotate_left
                              · simp only [Act.put, List.setIfInBounds_toArray, List.set_cons_zero, List.set_cons_succ, i64_w, i32_w]
                                rfl
                              refine pure_ (i := 6) (N := some 52) (v := ?_) (a' := ?_) (M.tf [7, 5]) rfl rfl (any_of HT_.out (by kernel_rfl)) (fun _ _ _ h => h) (Or.inl ⟨by rfl, ?_⟩) ?_ ?_
                              rotate_left
                              · intro w'
                                go_simp
                                with_reducible rfl
                              rotate_left
                              · simp only [Act.put, List.setIfInBounds_toArray, List.set_cons_zero, List.set_cons_succ, i64_w, i32_w]
                                rfl
                              refine take_ (i := 7) (N := some 53) (v := ?_) (a' := ?_) (M.tf [8, 4]) rfl rfl (take_ofW HT_.out HW_.out (by kernel_rfl)) (fun _ _ _ h => h) (Or.inl ⟨by rfl, ?_⟩) hHeld ?_ ?_
                              rotate_left
                              · rintro w' ⟨s0, s1, s2, s3, s4, s5⟩
                                go_simp
                                with_reducible rfl
                              rotate_left
                              · simp only [Act.put, List.setIfInBounds_toArray, List.set_cons_zero, List.set_cons_succ, i64_w, i32_w]
                                rfl
                              refine one_ (i := 8) (N := some 54) (M.tf [9, 3]) rfl rfl (one_of HT_.out (by kernel_rfl)) (by decide) (fun K hK => ?_)
                              refine goes_ Try.func30 (by kernel_rfl) rfl #[.int .i64 (rd l0_2 x33_2)] (by rfl) rfl rfl (by (try simp only [List.map_toArray, List.map_cons, List.map_nil]); first | done | rfl | (simp only [List.length_drop, List.length_take]; rfl)) ?_
                              with_reducible refine (scan_PutNum.calls (rd l0_2 x33_2) t128 _ A33.out).mono ?_
                              rintro e w42 ⟨rfl, hb⟩
                              refine ⟨_, rfl, ?_⟩
                              have n0_ := M.bkB zae hb
                              have n1_ := M.bkB zaG hb
                              have n2_ := M.upS HB hb
                              clear zae zaG HB
                              have zae := n0_
                              have zaG := n1_
                              have HB := n2_
                              clear n0_ n1_ n2_
                              (try clear hb)
                              (try clear hb2)
                              (try clear hk)
                              (try clear hi)
                              refine hK.out _ _ ⟨(blk_cell zaG.out 0).trans rfl, (blk_cell zaG.out 1).trans rfl, (blk_cell zae.out 0).trans rfl, (blk_cell zae.out 1).trans rfl, (blk_cell zae.out 2).trans rfl, ((HB.out.cell (World.block_lt_of_cell? w _ hw127_0)).trans hw127_0)⟩ (fun hHeld => ?_)
                              clear hK K
                              refine norm_ (a' := ?_) ?_ ?_
                              rotate_left
                              · show Act.put _ (some 54) _ = _
                                simp only [Act.put, List.setIfInBounds_toArray, List.set_cons_zero, List.set_cons_succ, i64_w, i32_w]
                                rfl
                              refine pure_ (i := 9) (N := some 55) (v := ?_) (a' := ?_) (M.tf [10, 2]) rfl rfl (any_of HT_.out (by kernel_rfl)) (fun _ _ _ h => h) (Or.inl ⟨by rfl, ?_⟩) ?_ ?_
                              rotate_left
                              · intro w'
                                go_simp
                                with_reducible rfl
                              rotate_left
                              · simp only [Act.put, List.setIfInBounds_toArray, List.set_cons_zero, List.set_cons_succ, i64_w, i32_w]
                                rfl
                              refine pure_ (i := 10) (N := some 56) (v := ?_) (a' := ?_) (M.tf [11, 1]) rfl rfl (any_of HT_.out (by kernel_rfl)) (fun _ _ _ h => h) (Or.inl ⟨by rfl, ?_⟩) ?_ ?_
                              rotate_left
                              · intro w'
                                go_simp
                                with_reducible rfl
                              rotate_left
                              · simp only [Act.put, List.setIfInBounds_toArray, List.set_cons_zero, List.set_cons_succ, i64_w, i32_w]
                                rfl
                              refine pure_ (i := 11) (N := some 5) (v := ?_) (a' := ?_) (M.tf [12]) rfl rfl (any_of HT_.out (by kernel_rfl)) (fun _ _ _ h => h) (Or.inl ⟨by rfl, ?_⟩) ?_ ?_
                              rotate_left
                              · intro w'
                                go_simp
                                with_reducible rfl
                              rotate_left
                              · simp only [Act.put, List.setIfInBounds_toArray, List.set_cons_zero, List.set_cons_succ, i64_w, i32_w]
                                rfl
                              refine done_ (done_of HT_.out (by kernel_rfl)) ?_
                              try go_wp2
                              go_roundg k2
                              case measure => have := HJ3.out; have := HK2.out; omega
                              case rel => exact ⟨((x5_2 ++ t126) ++ (((rd_T29 l0_1 x33_2).f1) ++ t128)), (wrap64 (x33_2 + 1)), (by first | rfl | (simp; done) | (simp [*]; done) | (simp [M.isEmpty_bne]; done)), (by first | rfl | (simp; done) | (simp [*]; done) | (simp [M.isEmpty_bne]; done)), H', ⟨by have := HJ3.out; have := HK2.out; omega⟩, ⟨by (with_reducible repeat (first | refine blk_drewN ?_ _ | refine blk_drew ?_ | refine blk_alloc ?_ _)); exact zae.out⟩, ⟨M.up HB⟩⟩
                            · rw [if_neg c35] at H
                              exact absurd H (by simp)
                          · rw [if_neg c34] at H
                            exact absurd H (by simp)
                        · rw [if_neg c32] at H
                          exact absurd H (by simp)
                      · rw [if_neg c31] at H
                        have c31b0 : decide (0 < a0_0) = false := decide_eq_false c31
                        clear c31
                        replace H := Option.bind_eq_some_iff.mp H
                        obtain ⟨t129, A430, H⟩ := H
                        replace H : (if (x5_2 ++ t126).size + t129.size ≤ 9223372036854775807 then (chunk_Put_p.l0 k2 ((x5_2 ++ t126) ++ t129) l0_1 (l0_1.length : Int) (wrap64 (x33_2 + 1)) a0_0 l0_1 l0_2) else (none)) = some (r1, r2) := H
                        have A43 := Aside0.mk A430
                        clear A430
                        by_cases c44 : (x5_2 ++ t126).size + t129.size ≤ 9223372036854775807
                        · rw [if_pos c44] at H
                          have c44b0 := eq_true c44
                          have c44b1 : decide ((x5_2 ++ t126).size + t129.size ≤ 9223372036854775807) = true := decide_eq_true c44
                          try have c44b2 : (9223372036854775807 < (x5_2 ++ t126).size + t129.size) = False := eq_false (Nat.not_lt.2 c44)
                          have c44m := c44
                          (try simp only [ByteArray.size_append] at c44m)
                          have c44b3 := eq_true c44m
                          have c44b4 := eq_false (Nat.not_lt.2 c44m)
                          have c44b5 := decide_eq_true c44m
                          have H' := Aside0.mk H
                          clear H
                          have p124 : 0 ≤ (x33_2 : Int) := of_decide_eq_true (by first | (with_reducible assumption) | assumption)
                          have q124 : x33_2 < (l0_1.length : Int) := of_decide_eq_true (by first | (with_reducible assumption) | assumption)
                          obtain ⟨ad124, e124, hx124_0, hx124_1⟩ := at_T29 HR0_1.out x33_2 p124 q124
                          cases e124
                          replace hx124_0 := (HB.out.cell (World.block_lt_of_cell? w _ hx124_0)).trans hx124_0
                          replace hx124_1 := (HB.out.cell (World.block_lt_of_cell? w _ hx124_1)).trans hx124_1
                          replace p124 := eq_true p124
                          replace q124 := eq_true q124
                          go_wp2_with (first | ((with_reducible refine gate_dst (N := 7) rfl ?_); refine box_event ?hg (N := 7) ?hd (cs := #[.string (⟨#[]⟩ : ByteArray), .string (⟨#[]⟩ : ByteArray)]) (t := 29) ?hr ?_; (case hd => rfl); (case hg => rfl); (case hr => first | (go_simp; done) | (go_simp; rfl)); intro zaF hg w45 hbox hb; have n0_ := M.bkB zae hb; have n1_ := M.upS HB hb; have n2_ := Aside0.mk (hbox); have n3_ := M.upG HB hg; have n4_ := M.upG HB hg; have n5_ := M.bkL zae hg; have n6_ := M.bkG zae hg; clear zae HB; have zae := n0_; have HB := n1_; have zaG := n2_; have zaH := n3_; have zaI := n4_; have zaJ := n5_; have zaK := n6_; clear n0_ n1_ n2_ n3_ n4_ n5_ n6_; clear hb hbox hg; have zaX := zaK.out; have zaY := zaJ.out; obtain ⟨zaZ, za0⟩ := M.bc2 (w := w45) (a := .string (⟨#[]⟩ : ByteArray)) (b := .string (⟨#[]⟩ : ByteArray)) zaG.out; obtain ⟨za1, za2⟩ := M.bf2 zaG) | ((with_reducible refine gate_callee (f := 31) rfl ?_); refine M.goes (some 41) Try.func31 #[.string ((rd_T29 l0_1 x33_2).f0)] rfl ?_; (with_reducible refine (scan_PutText.calls ((rd_T29 l0_1 x33_2).f0) t126 _ A29.out).mono ?_); rintro e w48 ⟨rfl, hb⟩; refine ⟨_, rfl, ?_⟩; have n0_ := Aside0.mk (blk_below (g := zad) (o := .cells #[.int .i64 a0_0, .slice (some ad124) l0_1.length c0_1, .slice A0_2 l0_2.length c0_2] 25 (0, 0)) (by (with_reducible repeat (first | refine blk_drewN ?_ _ | refine blk_drew ?_ | refine blk_alloc ?_ _)); refine blk_far ?_ zaJ.out _; (with_reducible repeat (first | refine blk_drewN ?_ _ | refine blk_drew ?_ | refine blk_alloc ?_ _)); refine blk_far ?_ zaJ.out _; (with_reducible repeat (first | refine blk_drewN ?_ _ | refine blk_drew ?_ | refine blk_alloc ?_ _)); exact zae.out) hb); have n1_ := Aside0.mk (blk_below (g := zaF) (o := .cells #[.string ((rd_T29 l0_1 x33_2).f0), .string ((rd_T29 l0_1 x33_2).f1)] 29 (0, 0)) (by (with_reducible repeat (first | refine blk_drewN ?_ _ | refine blk_drew ?_ | refine blk_alloc ?_ _)); refine blk_put (cs := #[.string ((rd_T29 l0_1 x33_2).f0), .string (⟨#[]⟩ : ByteArray)]) ?_ 1 _ rfl; (with_reducible repeat (first | refine blk_drewN ?_ _ | refine blk_drew ?_ | refine blk_alloc ?_ _)); refine blk_put (cs := #[.string (⟨#[]⟩ : ByteArray), .string (⟨#[]⟩ : ByteArray)]) ?_ 0 _ rfl; (with_reducible repeat (first | refine blk_drewN ?_ _ | refine blk_drew ?_ | refine blk_alloc ?_ _)); exact zaG.out) hb); have n2_ := M.upS HB hb; clear zae zaG HB; have zae := n0_; have zaG := n1_; have HB := n2_; clear n0_ n1_ n2_; (try clear hb); obtain ⟨za3, za4, za5⟩ := M.bc3 (w := w48) (a := .int .i64 a0_0) (b := .slice (some ad124) l0_1.length c0_1) (c := .slice A0_2 l0_2.length c0_2) zae.out; obtain ⟨za6, za7, za8⟩ := M.bf3 zae; obtain ⟨za9, zba⟩ := M.bc2 (w := w48) (a := .string ((rd_T29 l0_1 x33_2).f0)) (b := .string ((rd_T29 l0_1 x33_2).f1)) zaG.out; obtain ⟨zbb, zbc⟩ := M.bf2 zaG) | ((with_reducible refine gate_callee (f := 31) rfl ?_); refine M.goes (some 60) Try.func31 #[.string ((rd_T29 l0_1 x33_2).f1)] rfl ?_; (with_reducible refine (scan_PutText.calls ((rd_T29 l0_1 x33_2).f1) t129 _ A43.out).mono ?_); rintro e w51 ⟨rfl, hb⟩; refine ⟨_, rfl, ?_⟩; have n0_ := M.bkB zae hb; have n1_ := M.bkB zaG hb; have n2_ := M.upS HB hb; clear zae zaG HB; have zae := n0_; have zaG := n1_; have HB := n2_; clear n0_ n1_ n2_; (try clear hb)))
                          go_roundg k2
                          case measure => have := HJ3.out; have := HK2.out; omega
                          case rel => exact ⟨((x5_2 ++ t126) ++ t129), (wrap64 (x33_2 + 1)), (by first | rfl | (simp; done) | (simp [*]; done) | (simp [M.isEmpty_bne]; done)), (by first | rfl | (simp; done) | (simp [*]; done) | (simp [M.isEmpty_bne]; done)), H', ⟨by have := HJ3.out; have := HK2.out; omega⟩, ⟨by (with_reducible repeat (first | refine blk_drewN ?_ _ | refine blk_drew ?_ | refine blk_alloc ?_ _)); exact zae.out⟩, ⟨M.up HB⟩⟩
                        · rw [if_neg c44] at H
                          exact absurd H (by simp)
                    · rw [if_neg c30] at H
                      exact absurd H (by simp)
                  · rw [if_neg c28] at H
                    exact absurd H (by simp)
                · rw [if_neg c27] at H
                  exact absurd H (by simp)
              · rw [if_neg c26] at H
                have c26b0 : decide (x33_2 < (l0_1.length : Int)) = false := decide_eq_false c26
                clear c26
                simp only [Option.some.injEq, Prod.mk.injEq] at H
                obtain ⟨rfl, rfl⟩ := H
                go_wp2
                go_ret2
                exact M.fin (M.up HB)
        · rw [if_neg c22] at H
          exact absurd H (by simp)
  · rw [if_neg c3] at H
    have c3b0 : (t115 == 0) = false := beq_eq_false_iff_ne.mpr c3
    have c3b1 : (t115 != 0) = true := bne_iff_ne.mpr c3
    simp only [Option.some.injEq, Prod.mk.injEq] at H
    obtain ⟨rfl, rfl⟩ := H
    go_enter Try.func17, Try.ntmps17
    go_wp2_with (first | ((with_reducible refine gate_dst (N := 1) rfl ?_); refine box_event ?hg (N := 1) ?hd (cs := #[.int .i64 a0_0, .slice A0_1 l0_1.length c0_1, .slice A0_2 l0_2.length c0_2]) (t := 25) ?hr ?_; (case hd => rfl); (case hg => rfl); (case hr => first | (go_simp; done) | (go_simp; rfl)); intro zad hg w52 hbox hb; have n0_ := M.upS HB hb; have n1_ := Aside0.mk (hbox); have n2_ := M.upG HB hg; have n3_ := M.upG HB hg; clear HB; have HB := n0_; have zae := n1_; have zaf := n2_; have zag := n3_; clear n0_ n1_ n2_ n3_; clear hb hbox hg; obtain ⟨zbd, zbe, zbf⟩ := M.bc3 (w := w52) (a := .int .i64 a0_0) (b := .slice A0_1 l0_1.length c0_1) (c := .slice A0_2 l0_2.length c0_2) zae.out; obtain ⟨zbg, zbh, zbi⟩ := M.bf3 zae) | ((with_reducible refine gate_callee (f := 24) rfl ?_); refine M.goes (some 9) Try.func24 #[.agg #[.int .i64 a0_0, .slice A0_1 l0_1.length c0_1, .slice A0_2 l0_2.length c0_2]] rfl ?_; (with_reducible refine (chunk_Check.calls a0_0 _ _ l0_1 _ _ l0_2 t115 _ ?side1 ?side2 ?side3 ?side4 A2.out).mono ?_); (case side1 => exact M.cB HR0_1 HB); (case side2 => exact HC0_1.out); (case side3 => exact M.cB HR0_2 HB); (case side4 => exact HC0_2.out); rintro e w54 ⟨rfl, hb⟩; refine ⟨_, rfl, ?_⟩; have n0_ := M.bkB zae hb; have n1_ := M.upS HB hb; clear zae HB; have zae := n0_; have HB := n1_; clear n0_ n1_; (try clear hb)))
    go_ret2
    exact M.fin (M.up HB)

-- this session's own plain form
def chunk_Put.f (a0_0 : Int) (l0_1 : List S29) (l0_2 : List Int) : Option (ByteArray × Int) := if l0_2.length ≤ 9223372036854775806 ∧ l0_1.length ≤ 9223372036854775806 then some (if chunk_fits.wrong a0_0 l0_1 l0_2 = 0 then (M.sb (chunk_fits.text a0_0 l0_1 l0_2), 0) else (M.sb [], chunk_fits.wrong a0_0 l0_1 l0_2)) else none
theorem chunk_fits.wrong_ok {lv : Int} {es : List S29} {cs : List Int} (h : chunk_fits.wrong lv es cs = 0) : 0 ≤ lv ∧ lv ≤ 40 ∧ es.length ≤ 8 ∧ (lv > 0 → cs.length = es.length ∧ ∀ n ∈ cs, 1 ≤ n ∧ n ≤ 2147483648) ∧ (lv = 0 → cs = []) ∧ ∀ e ∈ es, chunk_fits.ok lv e.f0 e.f1 = true := by
  unfold chunk_fits.wrong at h
  split at h
  · cases h
  · rename_i hh
    have hc : chunk_fits.counted lv es cs = true := by
      cases hb : chunk_fits.counted lv es cs with
      | true => rfl
      | false => exact absurd (.inr (.inr (.inr hb))) hh
    have h1 : ¬ lv < 0 := fun z => hh (.inl z)
    have h2 : ¬ 40 < lv := fun z => hh (.inr (.inl z))
    have h3 : ¬ 8 < es.length := fun z => hh (.inr (.inr (.inl z)))
    unfold chunk_fits.counted at hc
    refine ⟨by omega, by omega, by omega, fun hl => ?_, fun hl => ?_, chunk_fits.go_ok lv es none h⟩
    · rw [if_neg (by omega), Bool.and_eq_true, List.all_eq_true] at hc
      exact ⟨(of_decide_eq_true hc.2).1, fun n hn => of_decide_eq_true (hc.1 n hn)⟩
    · rw [if_pos hl] at hc
      exact List.eq_nil_of_length_eq_zero (of_decide_eq_true hc)
theorem chunk_Put.loop (lv : Int) (es : List S29) (cs : List Int) (hw : chunk_fits.wrong lv es cs = 0) (d : Nat) : ∀ (i : Nat) (out : ByteArray), i + d = es.length → out.size ≤ 100 + i * 2200 →
    chunk_Put_p.l0 (d + 1) out es (es.length : Int) (i : Int) lv es cs = some (out ++ M.sb (chunk_fits.enc lv (es.drop i) (cs.drop i)), 0) := by
  obtain ⟨hl0, hl1, hl8, hcn, hc0, hok⟩ := chunk_fits.wrong_ok hw
  induction d with
  | zero =>
    intro i out hi ho
    simp only [chunk_Put_p.l0]
    rw [if_neg (by omega), List.drop_of_length_le (by omega)]
    congr 2
    exact M.bs_inj (by rw [M.bs_append]; simp [chunk_fits.enc, M.bs_sb])
  | succ d ih =>
    intro i out hi ho
    have hlt : i < es.length := by omega
    have hrd : rd_T29 es (i : Int) = es[i] := by simp [rd_T29, List.getD, hlt]
    have he := hok es[i] (List.getElem_mem hlt)
    rw [chunk_Put_p.l0, if_pos (by omega), if_pos (by omega), if_pos (by omega), hrd, List.drop_eq_getElem_cons hlt, M.wrap64_id (i := (i : Int) + 1) (by omega) (by omega), show (i : Int) + 1 = ((i + 1 : Nat) : Int) from by omega]
    generalize es[i] = e at he ⊢
    unfold chunk_fits.ok at he
    have he := of_decide_eq_true he
    have l1 := M.vb_le e.f0.size (by omega)
    unfold scan_PutText.f
    rw [if_pos (by omega), Option.bind_some, if_pos (by simp only [M.size_append, M.size_sb]; omega)]
    by_cases hl : lv > 0
    · rw [if_pos hl] at he
      have hil : i < cs.length := by rw [(hcn hl).1]; omega
      have hrc : rd cs (i : Int) = cs[i] := by simp [rd, List.getD, hil]
      have hcb := (hcn hl).2 cs[i] (List.getElem_mem hil)
      have l2 := M.vb_le cs[i].toNat (by omega)
      unfold scan_PutNum.f
      rw [if_pos hl, if_pos (by omega), hrc, if_pos (by omega), Option.bind_some, if_pos (by simp only [M.size_sb]; omega), if_pos (by simp only [M.size_append, M.size_sb]; omega)]
      rw [ih (i + 1) _ (by omega) (by simp only [M.size_append, M.size_sb]; omega), List.drop_eq_getElem_cons hil]
      congr 2
      apply M.bs_inj
      simp only [chunk_fits.enc, M.bs_append, M.bs_sb, if_pos hl, List.headD_cons, List.tail_cons, List.append_assoc]
    · rw [if_neg hl] at he
      have l3 := M.vb_le e.f1.size (by omega)
      have hcs : cs = [] := hc0 (by omega)
      rw [if_neg hl, if_pos (by omega), Option.bind_some]
      rw [if_pos (by simp only [M.size_append, M.size_sb]; omega)]
      rw [ih (i + 1) _ (by omega) (by simp only [M.size_append, M.size_sb]; omega)]
      congr 2
      apply M.bs_inj
      simp only [chunk_fits.enc, M.bs_append, M.bs_sb, if_neg hl, hcs, List.drop_nil, List.tail_nil, List.append_assoc]
theorem chunk_Put.one (x : Int) : strOfNums [x] = M.sb [UInt8.ofNat x.toNat] := rfl
theorem chunk_Put.ev (lv : Int) (es : List S29) (cs : List Int) (r : ByteArray × Int) (h : chunk_Put.f lv es cs = some r) : ∃ k, chunk_Put_p.f k lv es cs = some r := by
  unfold chunk_Put.f at h
  split at h
  case isFalse => cases h
  case isTrue hh =>
    rw [← h]
    unfold chunk_Put_p.f chunk_Check.f
    rw [if_pos hh]
    simp only [Option.bind_some]
    by_cases hw : chunk_fits.wrong lv es cs = 0
    · obtain ⟨hl0, hl1, hl8, hcn, hc0, hok⟩ := chunk_fits.wrong_ok hw
      rw [if_pos hw]
      have lv' := M.vb_le lv.toNat (by omega)
      have le' := M.vb_le es.length (by omega)
      have hj : ∀ out : ByteArray, out.size ≤ 20 → chunk_Put_p.j0 (es.length + 2) out lv es cs = some (out ++ M.sb (M.vb es.length) ++ M.sb (chunk_fits.enc lv es cs), 0) := by
        intro out ho
        rw [show es.length + 2 = (es.length + 1) + 1 from rfl, chunk_Put_p.j0]
        unfold scan_PutNum.f
        rw [if_pos (by omega), Option.bind_some, Int.toNat_natCast, M.size_sb, if_pos (by omega)]
        have := chunk_Put.loop lv es cs hw es.length 0 (out ++ M.sb (M.vb es.length)) (by omega) (by rw [M.size_append, M.size_sb]; omega)
        rw [List.drop_zero, List.drop_zero] at this
        exact this
      refine ⟨es.length + 2, ?_⟩
      rw [if_pos hw]
      by_cases hl : lv > 0
      · rw [if_pos hl]
        unfold scan_PutNum.f
        rw [if_pos (by omega), Option.bind_some, chunk_Put.one, M.size_sb, M.size_sb, if_pos (by simp; omega), hj _ (by rw [M.size_append, M.size_sb, M.size_sb]; simp; omega)]
        congr 2
        apply M.bs_inj
        simp [chunk_fits.text, M.bs_append, M.bs_sb, if_pos hl]
      · rw [if_neg hl, chunk_Put.one, hj _ (by rw [M.size_sb]; simp)]
        congr 2
        apply M.bs_inj
        simp [chunk_fits.text, M.bs_append, M.bs_sb, if_neg hl]
    · rw [if_neg hw]
      exact ⟨0, by rw [if_neg hw]; rfl⟩
theorem chunk_Put.calls (a0_0 : Int) (A0_1 : Option Addr) (c0_1 : Nat) (l0_1 : List (S29)) (A0_2 : Option Addr) (c0_2 : Nat) (l0_2 : List Int) (r1 : ByteArray) (r2 : Int) (w : World) (hr0_1 : Kd.C k29 w A0_1 l0_1.length l0_1) (hc0_1 : l0_1.length ≤ c0_1) (hr0_2 : Kd.C (Kd.int .i64) w A0_2 l0_2.length l0_2) (hc0_2 : l0_2.length ≤ c0_2) (h : chunk_Put.f a0_0 l0_1 l0_2 = some (r1, r2)) :
    Calls Try.prog 17 #[.agg #[.int .i64 a0_0, .slice A0_1 l0_1.length c0_1, .slice A0_2 l0_2.length c0_2]] w fun e w' => e = .returned (.tuple #[.string r1, .int .i64 r2]) ∧ Below w.heap.size w w' := by
  obtain ⟨k, hk⟩ := chunk_Put.ev _ _ _ _ h
  exact chunk_Put_p.calls (k := k) (w := w) (h := hk) (hr0_1 := hr0_1) (hc0_1 := hc0_1) (hr0_2 := hr0_2) (hc0_2 := hc0_2)

end Go.Proofs.Ytccppdpmfegndaa.EChunkTells
