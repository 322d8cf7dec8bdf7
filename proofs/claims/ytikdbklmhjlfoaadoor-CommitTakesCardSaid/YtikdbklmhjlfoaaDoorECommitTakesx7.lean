-- Written by this session's own program (wip/tools/ext.py) for this claim; Lean checks it.
import Derived.Test.YtikdbklmhjlfoaaDoorECommitTakesx0
import Derived.Test.YtikdbklmhjlfoaaDoorECommitTakesx5
import Derived.Test.YtikdbklmhjlfoaaDoorECommitTakesx6
namespace Go.Proofs.YtikdbklmhjlfoaaDoor.ECommitTakes
open Go.RowKit Go.Proofs.YtikdbklmhjlfoaaDoorW.PrintWords Go.Proofs.YtikdbklmhjlfoaaDoorW.PrintLast Go.Proofs.YtikdbklmhjlfoaaDoorW.PrintMore
attribute [local go_sem] M.run_leq M.run_gtr M.run_geq max2_int min2_int max_two min_two max_three min_three max_four min_four   -- for this text's walks alone
set_option linter.unusedVariables false
set_option linter.unusedSimpArgs false

/-! ### pleachref35_Put_p: function 17 -/
def pleachref35_Put_p.l0 : Nat → ByteArray → List ByteArray → Int → Int → Int → List ByteArray → ByteArray → ByteArray → Option (ByteArray)
  | 0, _, _, _, _, _, _, _, _ => none
  | k + 1, x3, x19, x20, x21, zaa, zab, zac, zad => if x21 < x20 then (if 0 ≤ x21 then (if x21 < (x19.length : Int) then (if x3.size + (rdOf ByteArray.empty x19 x21).size ≤ 9223372036854775807 then (pleachref35_Put_p.l0 k (x3 ++ (rdOf ByteArray.empty x19 x21)) x19 x20 (wrap64 (x21 + 1)) zaa zab zac zad) else (none)) else (none)) else (none)) else (if x3.size + zac.size ≤ 9223372036854775807 then ((pleachref04_PutText.f zad).bind fun t210 => (if (x3 ++ zac).size + t210.size ≤ 9223372036854775807 then (some ((x3 ++ zac) ++ t210)) else (none))) else (none))
def pleachref35_Put_p.f (k : Nat) (a0_0 : Int) (l0_1 : List ByteArray) (a0_2 : ByteArray) (a0_3 : ByteArray) : Option (ByteArray) := (pleachref35_Is.f a0_0 l0_1 a0_2 a0_3).bind fun t206 => (if t206 = true then ((pleachref04_PutNum.f a0_0).bind fun t207 => (if 1 + t207.size ≤ 9223372036854775807 then ((pleachref04_PutNum.f (l0_1.length : Int)).bind fun t208 => (if ((⟨#[67]⟩ : ByteArray) ++ t207).size + t208.size ≤ 9223372036854775807 then (pleachref35_Put_p.l0 k (((⟨#[67]⟩ : ByteArray) ++ t207) ++ t208) l0_1 (l0_1.length : Int) 0 a0_0 l0_1 a0_2 a0_3) else (none))) else (none))) else (some (⟨#[]⟩ : ByteArray)))
theorem pleachref35_Put_p.mono_l : ∀ k, (∀ y0 y1 y2 y3 y4 y5 y6 y7, LeO (pleachref35_Put_p.l0 k y0 y1 y2 y3 y4 y5 y6 y7) (pleachref35_Put_p.l0 (k + 1) y0 y1 y2 y3 y4 y5 y6 y7))
  | 0 => fun _ _ _ _ _ _ _ _ r h => by simp [pleachref35_Put_p.l0] at h
  | k + 1 => by
    have ih0 := pleachref35_Put_p.mono_l k
    · intro y0 y1 y2 y3 y4 y5 y6 y7
      unfold pleachref35_Put_p.l0
      repeat' first
      | (with_reducible exact ih0 _ _ _ _ _ _ _ _)
      | (with_reducible exact LeO.refl _)
      | (with_reducible exact LeO.none _)
      | (with_reducible refine LeO.ite ?_ ?_)
      | (with_reducible refine LeO.bind ?_ (fun _ => ?_))
      | exact ih0 _ _ _ _ _ _ _ _
      | exact LeO.none _
      | refine LeO.ite ?_ ?_
      | refine LeO.bind ?_ (fun _ => ?_)
theorem pleachref35_Put_p.mono : ∀ a0 a1 a2 a3 k, LeO (pleachref35_Put_p.f k a0 a1 a2 a3) (pleachref35_Put_p.f (k + 1) a0 a1 a2 a3) := by
  intro a0 a1 a2 a3 k
  have ih0 := pleachref35_Put_p.mono_l k
  unfold pleachref35_Put_p.f
  repeat' first
      | (with_reducible exact ih0 _ _ _ _ _ _ _ _)
      | (with_reducible exact LeO.refl _)
      | (with_reducible exact LeO.none _)
      | (with_reducible refine LeO.ite ?_ ?_)
      | (with_reducible refine LeO.bind ?_ (fun _ => ?_))
      | exact ih0 _ _ _ _ _ _ _ _
      | exact LeO.none _
      | refine LeO.ite ?_ ?_
      | refine LeO.bind ?_ (fun _ => ?_)
def pleachref35_Put_p.T3 : Bool × List (List Nat × List Nat) := (true, [([], []), ([0], [0]), ([1], [1]), ([2], [2]), ([], []), ([4], [4]), ([5], [5]), ([6, 2], [6]), ([3, 7], [3, 7]), ([8, 7, 0, 1, 2, 3, 4, 5, 6, 7, 8], [8])])
def pleachref35_Put_p.B3 : List Nat := [0, 1, 3, 7, 0, 16, 48, 119, 255, 511]
theorem pleachref35_Put_p.tab3 : rtab .any (opsOf Tryd.f17 3) = pleachref35_Put_p.T3 := by kernel_rfl
theorem pleachref35_Put_p.bits3 : waitsOk pleachref35_Put_p.T3.2 pleachref35_Put_p.B3 = true := by kernel_rfl
def pleachref35_Put_p.T9 : Bool × List (List Nat × List Nat) := (true, [([], []), ([], []), ([1], [1]), ([0, 2], [0, 2]), ([], []), ([4], [4]), ([5], [5]), ([3, 6], [3, 6]), ([7, 6, 0, 1, 2, 3, 4, 5, 6, 7], [7])])
def pleachref35_Put_p.B9 : List Nat := [0, 0, 2, 7, 0, 16, 48, 127, 255]
theorem pleachref35_Put_p.tab9 : rtab .any (opsOf Tryd.f17 9) = pleachref35_Put_p.T9 := by kernel_rfl
theorem pleachref35_Put_p.bits9 : waitsOk pleachref35_Put_p.T9.2 pleachref35_Put_p.B9 = true := by kernel_rfl
set_option maxHeartbeats 8000000 in
set_option maxRecDepth 100000 in
theorem pleachref35_Put_p.calls (k : Nat) (a0_0 : Int) (A0_1 : Option Addr) (c0_1 : Nat) (l0_1 : List ByteArray) (a0_2 : ByteArray) (a0_3 : ByteArray) (r : ByteArray) (w : World) (hr0_1 : Kd.C Kd.string w A0_1 l0_1.length l0_1) (hc0_1 : l0_1.length ≤ c0_1) (h : pleachref35_Put_p.f k a0_0 l0_1 a0_2 a0_3 = some r) :
    Calls Tryd.prog 17 #[.agg #[.int .i64 a0_0, .slice A0_1 l0_1.length c0_1, .string a0_2, .string a0_3]] w fun e w' => e = .returned (.string r) ∧ Below w.heap.size w w' := by
  have hu24 := Tryd.underlying24
  have HR0_1 := Aside0.mk hr0_1
  have HC0_1 := Aside0.mk hc0_1
  clear hr0_1 hc0_1
  have HB := Aside0.mk (Below.refl w.heap.size w)
  have H : ((pleachref35_Is.f a0_0 l0_1 a0_2 a0_3).bind fun t206 => (if t206 = true then ((pleachref04_PutNum.f a0_0).bind fun t207 => (if 1 + t207.size ≤ 9223372036854775807 then ((pleachref04_PutNum.f (l0_1.length : Int)).bind fun t208 => (if ((⟨#[67]⟩ : ByteArray) ++ t207).size + t208.size ≤ 9223372036854775807 then (pleachref35_Put_p.l0 k (((⟨#[67]⟩ : ByteArray) ++ t207) ++ t208) l0_1 (l0_1.length : Int) 0 a0_0 l0_1 a0_2 a0_3) else (none))) else (none))) else (some (⟨#[]⟩ : ByteArray)))) = some r := h
  clear h
  replace H := Option.bind_eq_some_iff.mp H
  obtain ⟨t206, A20, H⟩ := H
  replace H : (if t206 = true then ((pleachref04_PutNum.f a0_0).bind fun t207 => (if 1 + t207.size ≤ 9223372036854775807 then ((pleachref04_PutNum.f (l0_1.length : Int)).bind fun t208 => (if ((⟨#[67]⟩ : ByteArray) ++ t207).size + t208.size ≤ 9223372036854775807 then (pleachref35_Put_p.l0 k (((⟨#[67]⟩ : ByteArray) ++ t207) ++ t208) l0_1 (l0_1.length : Int) 0 a0_0 l0_1 a0_2 a0_3) else (none))) else (none))) else (some (⟨#[]⟩ : ByteArray))) = some r := H
  have A2 := Aside0.mk A20
  clear A20
  by_cases c3 : t206 = true
  · subst c3
    have H1 : ((pleachref04_PutNum.f a0_0).bind fun t207 => (if 1 + t207.size ≤ 9223372036854775807 then ((pleachref04_PutNum.f (l0_1.length : Int)).bind fun t208 => (if ((⟨#[67]⟩ : ByteArray) ++ t207).size + t208.size ≤ 9223372036854775807 then (pleachref35_Put_p.l0 k (((⟨#[67]⟩ : ByteArray) ++ t207) ++ t208) l0_1 (l0_1.length : Int) 0 a0_0 l0_1 a0_2 a0_3) else (none))) else (none))) = some r := by rw [if_pos rfl] at H; exact H
    clear H
    have H := H1
    clear H1
    replace H := Option.bind_eq_some_iff.mp H
    obtain ⟨t207, A40, H⟩ := H
    replace H : (if 1 + t207.size ≤ 9223372036854775807 then ((pleachref04_PutNum.f (l0_1.length : Int)).bind fun t208 => (if ((⟨#[67]⟩ : ByteArray) ++ t207).size + t208.size ≤ 9223372036854775807 then (pleachref35_Put_p.l0 k (((⟨#[67]⟩ : ByteArray) ++ t207) ++ t208) l0_1 (l0_1.length : Int) 0 a0_0 l0_1 a0_2 a0_3) else (none))) else (none)) = some r := H
    have A4 := Aside0.mk A40
    clear A40
    by_cases c5 : 1 + t207.size ≤ 9223372036854775807
    · rw [if_pos c5] at H
      have c5b0 := eq_true c5
      have c5b1 : decide (1 + t207.size ≤ 9223372036854775807) = true := decide_eq_true c5
      try have c5b2 : (9223372036854775807 < 1 + t207.size) = False := eq_false (Nat.not_lt.2 c5)
      replace H := Option.bind_eq_some_iff.mp H
      obtain ⟨t208, A60, H⟩ := H
      replace H : (if ((⟨#[67]⟩ : ByteArray) ++ t207).size + t208.size ≤ 9223372036854775807 then (pleachref35_Put_p.l0 k (((⟨#[67]⟩ : ByteArray) ++ t207) ++ t208) l0_1 (l0_1.length : Int) 0 a0_0 l0_1 a0_2 a0_3) else (none)) = some r := H
      have A6 := Aside0.mk A60
      clear A60
      by_cases c7 : ((⟨#[67]⟩ : ByteArray) ++ t207).size + t208.size ≤ 9223372036854775807
      · rw [if_pos c7] at H
        have c7b0 := eq_true c7
        have c7b1 : decide (((⟨#[67]⟩ : ByteArray) ++ t207).size + t208.size ≤ 9223372036854775807) = true := decide_eq_true c7
        try have c7b2 : (9223372036854775807 < ((⟨#[67]⟩ : ByteArray) ++ t207).size + t208.size) = False := eq_false (Nat.not_lt.2 c7)
        have c7m := c7
        (try simp only [ByteArray.size_append, show (⟨#[67]⟩ : ByteArray).size = 1 from rfl] at c7m)
        have c7b3 := eq_true c7m
        have c7b4 := eq_false (Nat.not_lt.2 c7m)
        have c7b5 := decide_eq_true c7m
        have H' := Aside0.mk H
        clear H
        go_enter Tryd.func17, Tryd.ntmps17
        try go_wp2_with (first | ((with_reducible refine gate_dst (N := 1) rfl ?_); refine box_event ?hg (N := 1) ?hd (cs := #[.int .i64 a0_0, .slice A0_1 l0_1.length c0_1, .string a0_2, .string a0_3]) (t := 24) ?hr ?_; (case hd => rfl); (case hg => rfl); (case hr => first | (go_simp; done) | (go_simp; rfl)); intro zae hg w8 hbox hb; have n0_ := M.upS HB hb; have n1_ := Aside0.mk (hbox); have n2_ := M.upG HB hg; have n3_ := M.upG HB hg; clear HB; have HB := n0_; have zaf := n1_; have zag := n2_; have zah := n3_; clear n0_ n1_ n2_ n3_; clear hb hbox hg; have zai : w8.cell? ⟨zae, 0, none⟩ = some (.int .i64 a0_0) := (blk_cell zaf.out 0).trans rfl; have zaj : w8.cell? ⟨zae, 1, none⟩ = some (.slice A0_1 l0_1.length c0_1) := (blk_cell zaf.out 1).trans rfl; have zak : w8.cell? ⟨zae, 2, none⟩ = some (.string a0_2) := (blk_cell zaf.out 2).trans rfl; have zal : w8.cell? ⟨zae, 3, none⟩ = some (.string a0_3) := (blk_cell zaf.out 3).trans rfl; have zam := blk_frozen zaf.out 0; have zan := blk_frozen zaf.out 1; have zao := blk_frozen zaf.out 2; have zap := blk_frozen zaf.out 3) | ((with_reducible refine gate_callee (f := 14) rfl ?_); refine M.goes (some 7) Tryd.func14 #[.agg #[.int .i64 a0_0, .slice A0_1 l0_1.length c0_1, .string a0_2, .string a0_3]] rfl ?_; (with_reducible refine (pleachref35_Is.calls a0_0 _ _ l0_1 a0_2 a0_3 true _ ?side1 ?side2 A2.out).mono ?_); (case side1 => exact M.cB HR0_1 HB); (case side2 => exact HC0_1.out); rintro e w10 ⟨rfl, hb⟩; refine ⟨_, rfl, ?_⟩; have n0_ := M.bkB zaf hb; have n1_ := M.upS HB hb; clear zaf HB; have zaf := n0_; have HB := n1_; clear n0_ n1_; (try clear hb)))
        have n0_ := Aside0.mk (blk_drew zaf.out)
        have n1_ := Aside0.mk (below_drew1 HB.out)
        clear zaf HB
        have zaf := n0_
        have HB := n1_
        clear n0_ n1_
        refine start_ (n := 10) (S := fun w' => w'.cell? ⟨zae, 0, none⟩ = some (.int .i64 a0_0) ∧ w'.cell? ⟨zae, 1, none⟩ = some (.slice A0_1 l0_1.length c0_1) ∧ w'.cell? ⟨zae, 2, none⟩ = some (.string a0_2) ∧ w'.cell? ⟨zae, 3, none⟩ = some (.string a0_3)) (ds := []) #[false, false, false, false, false, false, false, false, false, false] (by kernel_rfl) rfl rfl ⟨(blk_cell zaf.out 0).trans rfl, (blk_cell zaf.out 1).trans rfl, (blk_cell zaf.out 2).trans rfl, (blk_cell zaf.out 3).trans rfl⟩ (fun hHeld => ?_); refine with_tabW pleachref35_Put_p.tab3 pleachref35_Put_p.bits3 (fun HT_ HW_ => ?_)
        generalize w10.drew = w11 at zaf HB hHeld ⊢
        refine pure_ (i := 0) (N := some 9) (v := ?_) (a' := ?_) #[true, false, false, false, false, false, false, false, false, false] rfl rfl (any_of HT_.out (by kernel_rfl)) (fun _ _ _ h => h) (Or.inl ⟨by rfl, ?_⟩) ?_ ?_
        rotate_left
        · intro w'
          go_simp
          with_reducible rfl
        rotate_left
        · simp only [Act.put, List.setIfInBounds_toArray, List.set_cons_zero, List.set_cons_succ, i64_w, i32_w]
          rfl
        refine pure_ (i := 4) (N := some 13) (v := ?_) (a' := ?_) #[true, false, false, false, true, false, false, false, false, false] rfl rfl (any_of HT_.out (by kernel_rfl)) (fun _ _ _ h => h) (Or.inl ⟨by rfl, ?_⟩) ?_ ?_
        rotate_left
        · intro w'
          go_simp
          with_reducible rfl
        rotate_left
        · simp only [Act.put, List.setIfInBounds_toArray, List.set_cons_zero, List.set_cons_succ, i64_w, i32_w]
          rfl
        refine take_ (i := 1) (N := some 10) (v := ?_) (a' := ?_) #[true, true, false, false, true, false, false, false, false, false] rfl rfl (take_ofW HT_.out HW_.out (by kernel_rfl)) (fun _ _ _ h => h) (Or.inl ⟨by rfl, ?_⟩) hHeld ?_ ?_
        rotate_left
        · rintro w' ⟨s0, s1, s2, s3⟩
          go_simp
          with_reducible rfl
        rotate_left
        · simp only [Act.put, List.setIfInBounds_toArray, List.set_cons_zero, List.set_cons_succ, i64_w, i32_w]
          rfl
        refine take_ (i := 5) (N := some 14) (v := ?_) (a' := ?_) #[true, true, false, false, true, true, false, false, false, false] rfl rfl (take_ofW HT_.out HW_.out (by kernel_rfl)) (fun _ _ _ h => h) (Or.inl ⟨by rfl, ?_⟩) hHeld ?_ ?_
        rotate_left
        · rintro w' ⟨s0, s1, s2, s3⟩
          go_simp
          with_reducible rfl
        rotate_left
        · simp only [Act.put, List.setIfInBounds_toArray, List.set_cons_zero, List.set_cons_succ, i64_w, i32_w]
          rfl
        refine pure_ (i := 6) (N := some 15) (v := ?_) (a' := ?_) #[true, true, false, false, true, true, true, false, false, false] rfl rfl (any_of HT_.out (by kernel_rfl)) (fun _ _ _ h => h) (Or.inl ⟨by rfl, ?_⟩) ?_ ?_
        rotate_left
        · intro w'
          go_simp
          with_reducible rfl
        rotate_left
        · simp only [Act.put, List.setIfInBounds_toArray, List.set_cons_zero, List.set_cons_succ, i64_w, i32_w]
          rfl
        refine one_ (i := 2) (N := some 11) #[true, true, true, false, true, true, true, false, false, false] rfl rfl (one_of HT_.out (by kernel_rfl)) (by decide) (fun K hK => ?_)
        refine goes_ Tryd.func42 (by kernel_rfl) rfl #[.int .i64 a0_0] (by rfl) rfl rfl (by (try simp only [List.map_toArray, List.map_cons, List.map_nil]); first | done | rfl | (simp only [List.length_drop, List.length_take]; rfl)) ?_
        with_reducible refine (pleachref04_PutNum.calls a0_0 t207 _ A4.out).mono ?_
        rintro e w12 ⟨rfl, hb⟩
        refine ⟨_, rfl, ?_⟩
        have n0_ := M.bkB zaf hb
        have n1_ := M.upS HB hb
        clear zaf HB
        have zaf := n0_
        have HB := n1_
        clear n0_ n1_
        (try clear hb)
        (try clear hb2)
        (try clear hk)
        (try clear hi)
        refine hK.out _ _ ⟨(blk_cell zaf.out 0).trans rfl, (blk_cell zaf.out 1).trans rfl, (blk_cell zaf.out 2).trans rfl, (blk_cell zaf.out 3).trans rfl⟩ (fun hHeld => ?_)
        clear hK K
        refine norm_ (a' := ?_) ?_ ?_
        rotate_left
        · show Act.put _ (some 11) _ = _
          simp only [Act.put, List.setIfInBounds_toArray, List.set_cons_zero, List.set_cons_succ, i64_w, i32_w]
          rfl
        refine pure_ (i := 3) (N := some 12) (v := ?_) (a' := ?_) #[true, true, true, true, true, true, true, false, false, false] rfl rfl (any_of HT_.out (by kernel_rfl)) (fun _ _ _ h => h) (Or.inl ⟨by rfl, ?_⟩) ?_ ?_
        rotate_left
        · intro w'
          go_simp
          with_reducible rfl
        rotate_left
        · simp only [Act.put, List.setIfInBounds_toArray, List.set_cons_zero, List.set_cons_succ, i64_w, i32_w]
          rfl
        refine one_ (i := 7) (N := some 16) #[true, true, true, true, true, true, true, true, false, false] rfl rfl (one_of HT_.out (by kernel_rfl)) (by decide) (fun K hK => ?_)
        refine goes_ Tryd.func42 (by kernel_rfl) rfl #[.int .i64 (l0_1.length : Int)] (by rfl) rfl rfl (by (try simp only [List.map_toArray, List.map_cons, List.map_nil]); first | done | rfl | (simp only [List.length_drop, List.length_take]; rfl)) ?_
        with_reducible refine (pleachref04_PutNum.calls (l0_1.length : Int) t208 _ A6.out).mono ?_
        rintro e w13 ⟨rfl, hb⟩
        refine ⟨_, rfl, ?_⟩
        have n0_ := M.bkB zaf hb
        have n1_ := M.upS HB hb
        clear zaf HB
        have zaf := n0_
        have HB := n1_
        clear n0_ n1_
        (try clear hb)
        (try clear hb2)
        (try clear hk)
        (try clear hi)
        refine hK.out _ _ ⟨(blk_cell zaf.out 0).trans rfl, (blk_cell zaf.out 1).trans rfl, (blk_cell zaf.out 2).trans rfl, (blk_cell zaf.out 3).trans rfl⟩ (fun hHeld => ?_)
        clear hK K
        refine norm_ (a' := ?_) ?_ ?_
        rotate_left
        · show Act.put _ (some 16) _ = _
          simp only [Act.put, List.setIfInBounds_toArray, List.set_cons_zero, List.set_cons_succ, i64_w, i32_w]
          rfl
        refine pure_ (i := 8) (N := some 17) (v := ?_) (a' := ?_) #[true, true, true, true, true, true, true, true, true, false] rfl rfl (any_of HT_.out (by kernel_rfl)) (fun _ _ _ h => h) (Or.inl ⟨by rfl, ?_⟩) ?_ ?_
        rotate_left
        · intro w'
          go_simp
          with_reducible rfl
        rotate_left
        · simp only [Act.put, List.setIfInBounds_toArray, List.set_cons_zero, List.set_cons_succ, i64_w, i32_w]
          rfl
        refine pure_ (i := 9) (N := some 3) (v := ?_) (a' := ?_) #[true, true, true, true, true, true, true, true, true, true] rfl rfl (any_of HT_.out (by kernel_rfl)) (fun _ _ _ h => h) (Or.inl ⟨by rfl, ?_⟩) ?_ ?_
        rotate_left
        · intro w'
          go_simp
          with_reducible rfl
        rotate_left
        · simp only [Act.put, List.setIfInBounds_toArray, List.set_cons_zero, List.set_cons_succ, i64_w, i32_w]
          rfl
        refine done_ (done_of HT_.out (by kernel_rfl)) ?_
        have zaq : w13.cell? ⟨zae, 0, none⟩ = some (.int .i64 a0_0) := (blk_cell zaf.out 0).trans rfl
        have zar : w13.cell? ⟨zae, 1, none⟩ = some (.slice A0_1 l0_1.length c0_1) := (blk_cell zaf.out 1).trans rfl
        have zas : w13.cell? ⟨zae, 2, none⟩ = some (.string a0_2) := (blk_cell zaf.out 2).trans rfl
        have zat : w13.cell? ⟨zae, 3, none⟩ = some (.string a0_3) := (blk_cell zaf.out 3).trans rfl
        have zau := blk_frozen zaf.out 0
        have zav := blk_frozen zaf.out 1
        have zaw := blk_frozen zaf.out 2
        have zax := blk_frozen zaf.out 3
        try go_wp2
        go_loopg [3, 21] k (fun kq v3 v21 w' => ∃ (x3_1 : ByteArray) (x21_1 : Int), v3 = .string x3_1 ∧ v21 = .int .i64 x21_1 ∧ Aside0 (pleachref35_Put_p.l0 kq x3_1 l0_1 (l0_1.length : Int) x21_1 a0_0 l0_1 a0_2 a0_3 = some r) ∧ Aside0 (kq ≤ k) ∧ Aside0 (w'.heap[zae]? = some (.cells #[.int .i64 a0_0, (.slice A0_1 l0_1.length c0_1), .string a0_2, .string a0_3] 24 (0, 0))) ∧ Aside0 (Below w.heap.size w w'))
        case atStart => exact ⟨(((⟨#[67]⟩ : ByteArray) ++ t207) ++ t208), (0), (by first | rfl | (simp; done) | (simp [*]; done) | (simp [M.isEmpty_bne]; done)), (by first | rfl | (simp; done) | (simp [*]; done) | (simp [M.isEmpty_bne]; done)), H', ⟨Nat.le_refl _⟩, ⟨by (with_reducible repeat (first | refine blk_drewN ?_ _ | refine blk_drew ?_ | refine blk_alloc ?_ _)); exact zaf.out⟩, ⟨M.up HB⟩⟩
        case round =>
          clear H'
          try clear c1
          try clear p2
          try clear c3
          try clear c4
          try clear c5
          try clear c5b0
          try clear c5b1
          try clear c5b2
          try clear c7
          try clear c7b0
          try clear c7b1
          try clear c7b2
          try clear c14
          try clear zaq
          try clear zar
          try clear zas
          try clear zat
          try clear zai
          try clear zaj
          try clear zak
          try clear zal
          try clear zau
          try clear zav
          try clear zaw
          try clear zax
          try clear zam
          try clear zan
          try clear zao
          try clear zap
          obtain ⟨x3_1, x21_1, rfl, rfl, HA, HK1, zaf, HB⟩ := hrel
          cases gk with
          | zero => exact absurd HA.out (by simp [pleachref35_Put_p.l0])
          | succ k1 =>
            have H := HA.out
            clear HA
            simp only [pleachref35_Put_p.l0] at H
            by_cases c15 : x21_1 < (l0_1.length : Int)
            · rw [if_pos c15] at H
              have c15b0 : decide (x21_1 < (l0_1.length : Int)) = true := decide_eq_true c15
              clear c15
              by_cases c16 : 0 ≤ x21_1
              · rw [if_pos c16] at H
                have c16b0 : decide (0 ≤ x21_1) = true := decide_eq_true c16
                clear c16
                by_cases c17 : x21_1 < (l0_1.length : Int)
                · rw [if_pos c17] at H
                  have c17b0 : decide (x21_1 < (l0_1.length : Int)) = true := decide_eq_true c17
                  clear c17
                  by_cases c18 : x3_1.size + (rdOf ByteArray.empty l0_1 x21_1).size ≤ 9223372036854775807
                  · rw [if_pos c18] at H
                    have c18b0 := eq_true c18
                    have c18b1 : decide (x3_1.size + (rdOf ByteArray.empty l0_1 x21_1).size ≤ 9223372036854775807) = true := decide_eq_true c18
                    try have c18b2 : (9223372036854775807 < x3_1.size + (rdOf ByteArray.empty l0_1 x21_1).size) = False := eq_false (Nat.not_lt.2 c18)
                    have H' := Aside0.mk H
                    clear H
                    have p209 : 0 ≤ (x21_1 : Int) := of_decide_eq_true (by first | (with_reducible assumption) | assumption)
                    have q209 : x21_1 < (l0_1.length : Int) := of_decide_eq_true (by first | (with_reducible assumption) | assumption)
                    obtain ⟨ad209, e209, hx209_0⟩ := Kd.at_string HR0_1.out x21_1 p209 q209
                    cases e209
                    replace hx209_0 := (HB.out.cell (World.block_lt_of_cell? w _ hx209_0)).trans hx209_0
                    replace p209 := eq_true p209
                    replace q209 := eq_true q209
                    go_wp2
                    go_roundg k1
                    case measure => have := HK1.out; omega
                    case rel => exact ⟨(x3_1 ++ (rdOf ByteArray.empty l0_1 x21_1)), (wrap64 (x21_1 + 1)), (by first | rfl | (simp; done) | (simp [*]; done) | (simp [M.isEmpty_bne]; done)), (by first | rfl | (simp; done) | (simp [*]; done) | (simp [M.isEmpty_bne]; done)), H', ⟨by have := HK1.out; omega⟩, ⟨by (with_reducible repeat (first | refine blk_drewN ?_ _ | refine blk_drew ?_ | refine blk_alloc ?_ _)); exact zaf.out⟩, ⟨M.up HB⟩⟩
                  · rw [if_neg c18] at H
                    exact absurd H (by simp)
                · rw [if_neg c17] at H
                  exact absurd H (by simp)
              · rw [if_neg c16] at H
                exact absurd H (by simp)
            · rw [if_neg c15] at H
              have c15b0 : decide (x21_1 < (l0_1.length : Int)) = false := decide_eq_false c15
              clear c15
              by_cases c19 : x3_1.size + a0_2.size ≤ 9223372036854775807
              · rw [if_pos c19] at H
                have c19b0 := eq_true c19
                have c19b1 : decide (x3_1.size + a0_2.size ≤ 9223372036854775807) = true := decide_eq_true c19
                try have c19b2 : (9223372036854775807 < x3_1.size + a0_2.size) = False := eq_false (Nat.not_lt.2 c19)
                replace H := Option.bind_eq_some_iff.mp H
                obtain ⟨t210, A200, H⟩ := H
                replace H : (if (x3_1 ++ a0_2).size + t210.size ≤ 9223372036854775807 then (some ((x3_1 ++ a0_2) ++ t210)) else (none)) = some r := H
                have A20 := Aside0.mk A200
                clear A200
                by_cases c21 : (x3_1 ++ a0_2).size + t210.size ≤ 9223372036854775807
                · rw [if_pos c21] at H
                  have c21b0 := eq_true c21
                  have c21b1 : decide ((x3_1 ++ a0_2).size + t210.size ≤ 9223372036854775807) = true := decide_eq_true c21
                  try have c21b2 : (9223372036854775807 < (x3_1 ++ a0_2).size + t210.size) = False := eq_false (Nat.not_lt.2 c21)
                  have c21m := c21
                  (try simp only [ByteArray.size_append] at c21m)
                  have c21b3 := eq_true c21m
                  have c21b4 := eq_false (Nat.not_lt.2 c21m)
                  have c21b5 := decide_eq_true c21m
                  obtain rfl := Option.some.inj H
                  try go_wp2
                  have n0_ := Aside0.mk (blk_drew zaf.out)
                  have n1_ := Aside0.mk (below_drew1 HB.out)
                  clear zaf HB
                  have zaf := n0_
                  have HB := n1_
                  clear n0_ n1_
                  refine start_ (n := 9) (S := fun w' => w'.cell? ⟨zae, 0, none⟩ = some (.int .i64 a0_0) ∧ w'.cell? ⟨zae, 1, none⟩ = some (.slice A0_1 l0_1.length c0_1) ∧ w'.cell? ⟨zae, 2, none⟩ = some (.string a0_2) ∧ w'.cell? ⟨zae, 3, none⟩ = some (.string a0_3)) (ds := []) #[false, false, false, false, false, false, false, false, false] (by kernel_rfl) rfl rfl ⟨(blk_cell zaf.out 0).trans rfl, (blk_cell zaf.out 1).trans rfl, (blk_cell zaf.out 2).trans rfl, (blk_cell zaf.out 3).trans rfl⟩ (fun hHeld => ?_); refine with_tabW pleachref35_Put_p.tab9 pleachref35_Put_p.bits9 (fun HT_ HW_ => ?_)
                  generalize wr.drew = w22 at zaf HB hHeld ⊢
                  refine pure_ (i := 0) (N := some 29) (v := ?_) (a' := ?_) #[true, false, false, false, false, false, false, false, false] rfl rfl (any_of HT_.out (by kernel_rfl)) (fun _ _ _ h => h) (Or.inl ⟨by rfl, ?_⟩) ?_ ?_
                  rotate_left
                  · intro w'
                    go_simp
                    with_reducible rfl
                  rotate_left
                  · simp only [Act.put, List.setIfInBounds_toArray, List.set_cons_zero, List.set_cons_succ, i64_w, i32_w]
                    rfl
                  refine pure_ (i := 1) (N := some 30) (v := ?_) (a' := ?_) #[true, true, false, false, false, false, false, false, false] rfl rfl (any_of HT_.out (by kernel_rfl)) (fun _ _ _ h => h) (Or.inl ⟨by rfl, ?_⟩) ?_ ?_
                  rotate_left
                  · intro w'
                    go_simp
                    with_reducible rfl
                  rotate_left
                  · simp only [Act.put, List.setIfInBounds_toArray, List.set_cons_zero, List.set_cons_succ, i64_w, i32_w]
                    rfl
                  refine pure_ (i := 4) (N := some 33) (v := ?_) (a' := ?_) #[true, true, false, false, true, false, false, false, false] rfl rfl (any_of HT_.out (by kernel_rfl)) (fun _ _ _ h => h) (Or.inl ⟨by rfl, ?_⟩) ?_ ?_
                  rotate_left
                  · intro w'
                    go_simp
                    with_reducible rfl
                  rotate_left
                  · simp only [Act.put, List.setIfInBounds_toArray, List.set_cons_zero, List.set_cons_succ, i64_w, i32_w]
                    rfl
                  refine take_ (i := 2) (N := some 31) (v := ?_) (a' := ?_) #[true, true, true, false, true, false, false, false, false] rfl rfl (take_ofW HT_.out HW_.out (by kernel_rfl)) (fun _ _ _ h => h) (Or.inl ⟨by rfl, ?_⟩) hHeld ?_ ?_
                  rotate_left
                  · rintro w' ⟨s0, s1, s2, s3⟩
                    go_simp
                    with_reducible rfl
                  rotate_left
                  · simp only [Act.put, List.setIfInBounds_toArray, List.set_cons_zero, List.set_cons_succ, i64_w, i32_w]
                    rfl
                  refine pure_ (i := 3) (N := some 32) (v := ?_) (a' := ?_) #[true, true, true, true, true, false, false, false, false] rfl rfl (any_of HT_.out (by kernel_rfl)) (fun _ _ _ h => h) (Or.inl ⟨by rfl, ?_⟩) ?_ ?_
                  rotate_left
                  · intro w'
                    go_simp
                    with_reducible rfl
                  rotate_left
                  · simp only [Act.put, List.setIfInBounds_toArray, List.set_cons_zero, List.set_cons_succ, i64_w, i32_w]
                    rfl
                  refine take_ (i := 5) (N := some 34) (v := ?_) (a' := ?_) #[true, true, true, true, true, true, false, false, false] rfl rfl (take_ofW HT_.out HW_.out (by kernel_rfl)) (fun _ _ _ h => h) (Or.inl ⟨by rfl, ?_⟩) hHeld ?_ ?_
                  rotate_left
                  · rintro w' ⟨s0, s1, s2, s3⟩
                    go_simp
                    with_reducible rfl
                  rotate_left
                  · simp only [Act.put, List.setIfInBounds_toArray, List.set_cons_zero, List.set_cons_succ, i64_w, i32_w]
                    rfl
                  refine one_ (i := 6) (N := some 35) #[true, true, true, true, true, true, true, false, false] rfl rfl (one_of HT_.out (by kernel_rfl)) (by decide) (fun K hK => ?_)
                  refine goes_ Tryd.func43 (by kernel_rfl) rfl #[.string a0_3] (by rfl) rfl rfl (by (try simp only [List.map_toArray, List.map_cons, List.map_nil]); first | done | rfl | (simp only [List.length_drop, List.length_take]; rfl)) ?_
                  with_reducible refine (pleachref04_PutText.calls a0_3 t210 _ A20.out).mono ?_
                  rintro e w23 ⟨rfl, hb⟩
                  refine ⟨_, rfl, ?_⟩
                  have n0_ := M.bkB zaf hb
                  have n1_ := M.upS HB hb
                  clear zaf HB
                  have zaf := n0_
                  have HB := n1_
                  clear n0_ n1_
                  (try clear hb)
                  (try clear hb2)
                  (try clear hk)
                  (try clear hi)
                  refine hK.out _ _ ⟨(blk_cell zaf.out 0).trans rfl, (blk_cell zaf.out 1).trans rfl, (blk_cell zaf.out 2).trans rfl, (blk_cell zaf.out 3).trans rfl⟩ (fun hHeld => ?_)
                  clear hK K
                  refine norm_ (a' := ?_) ?_ ?_
                  rotate_left
                  · show Act.put _ (some 35) _ = _
                    simp only [Act.put, List.setIfInBounds_toArray, List.set_cons_zero, List.set_cons_succ, i64_w, i32_w]
                    rfl
                  refine pure_ (i := 7) (N := some 36) (v := ?_) (a' := ?_) #[true, true, true, true, true, true, true, true, false] rfl rfl (any_of HT_.out (by kernel_rfl)) (fun _ _ _ h => h) (Or.inl ⟨by rfl, ?_⟩) ?_ ?_
                  rotate_left
                  · intro w'
                    go_simp
                    with_reducible rfl
                  rotate_left
                  · simp only [Act.put, List.setIfInBounds_toArray, List.set_cons_zero, List.set_cons_succ, i64_w, i32_w]
                    rfl
                  refine pure_ (i := 8) (N := some 2) (v := ?_) (a' := ?_) #[true, true, true, true, true, true, true, true, true] rfl rfl (any_of HT_.out (by kernel_rfl)) (fun _ _ _ h => h) (Or.inl ⟨by rfl, ?_⟩) ?_ ?_
                  rotate_left
                  · intro w'
                    go_simp
                    with_reducible rfl
                  rotate_left
                  · simp only [Act.put, List.setIfInBounds_toArray, List.set_cons_zero, List.set_cons_succ, i64_w, i32_w]
                    rfl
                  refine done_ (done_of HT_.out (by kernel_rfl)) ?_
                  try go_wp2
                  go_ret
                  exact M.fin (M.up HB)
                · rw [if_neg c21] at H
                  exact absurd H (by simp)
              · rw [if_neg c19] at H
                exact absurd H (by simp)
      · rw [if_neg c7] at H
        exact absurd H (by simp)
    · rw [if_neg c5] at H
      exact absurd H (by simp)
  · replace c3 := Bool.eq_false_iff.mpr c3
    subst c3
    have H1 : (some (⟨#[]⟩ : ByteArray)) = some r := by rw [if_neg (show ¬ (false = true) by decide)] at H; exact H
    clear H
    have H := H1
    clear H1
    obtain rfl := Option.some.inj H
    go_enter Tryd.func17, Tryd.ntmps17
    go_wp2_with (first | ((with_reducible refine gate_dst (N := 1) rfl ?_); refine box_event ?hg (N := 1) ?hd (cs := #[.int .i64 a0_0, .slice A0_1 l0_1.length c0_1, .string a0_2, .string a0_3]) (t := 24) ?hr ?_; (case hd => rfl); (case hg => rfl); (case hr => first | (go_simp; done) | (go_simp; rfl)); intro zae hg w24 hbox hb; have n0_ := M.upS HB hb; have n1_ := Aside0.mk (hbox); have n2_ := M.upG HB hg; have n3_ := M.upG HB hg; clear HB; have HB := n0_; have zaf := n1_; have zag := n2_; have zah := n3_; clear n0_ n1_ n2_ n3_; clear hb hbox hg; have zay : w24.cell? ⟨zae, 0, none⟩ = some (.int .i64 a0_0) := (blk_cell zaf.out 0).trans rfl; have zaz : w24.cell? ⟨zae, 1, none⟩ = some (.slice A0_1 l0_1.length c0_1) := (blk_cell zaf.out 1).trans rfl; have zaA : w24.cell? ⟨zae, 2, none⟩ = some (.string a0_2) := (blk_cell zaf.out 2).trans rfl; have zaB : w24.cell? ⟨zae, 3, none⟩ = some (.string a0_3) := (blk_cell zaf.out 3).trans rfl; have zaC := blk_frozen zaf.out 0; have zaD := blk_frozen zaf.out 1; have zaE := blk_frozen zaf.out 2; have zaF := blk_frozen zaf.out 3) | ((with_reducible refine gate_callee (f := 14) rfl ?_); refine M.goes (some 7) Tryd.func14 #[.agg #[.int .i64 a0_0, .slice A0_1 l0_1.length c0_1, .string a0_2, .string a0_3]] rfl ?_; (with_reducible refine (pleachref35_Is.calls a0_0 _ _ l0_1 a0_2 a0_3 false _ ?side1 ?side2 A2.out).mono ?_); (case side1 => exact M.cB HR0_1 HB); (case side2 => exact HC0_1.out); rintro e w26 ⟨rfl, hb⟩; refine ⟨_, rfl, ?_⟩; have n0_ := M.bkB zaf hb; have n1_ := M.upS HB hb; clear zaf HB; have zaf := n0_; have HB := n1_; clear n0_ n1_; (try clear hb)))
    go_ret
    exact M.fin (M.up HB)

-- this session's own plain form
def pleachref35_Put.f (a0_0 : Int) (l0_1 : List ByteArray) (a0_2 : ByteArray) (a0_3 : ByteArray) : Option ByteArray := some (if M.isC a0_0 l0_1 a0_2 a0_3 then M.sb (M.cput a0_0 l0_1 a0_2 a0_3) else ⟨#[]⟩)
theorem pleachref35_Put.loop (n : Int) (ps : List ByteArray) (g note : ByteArray) (hl : ps.length ≤ 2) (hp : ∀ p ∈ ps, p.size = 32) (hg : g.size = 32) (hn : note.size ≤ 40) (d : Nat) : ∀ (i : Nat) (out : ByteArray), i + d = ps.length → out.size ≤ 100 + 32 * i →
    pleachref35_Put_p.l0 (d + 1) out ps (ps.length : Int) (i : Int) n ps g note = some (out ++ M.sb ((ps.drop i).flatMap M.bs ++ (M.bs g ++ (M.vb note.size ++ M.bs note)))) := by
  have hv := M.vb_le note.size (by omega)
  have hv2 : (M.sb (M.vb note.size)).size ≤ 10 := by rw [M.size_sb]; exact hv
  have ht : pleachref04_PutText.f note = some (M.sb (M.vb note.size) ++ note) := if_pos (by omega)
  induction d with
  | zero =>
    intro i out hi ho
    rw [pleachref35_Put_p.l0, if_neg (by omega), if_pos (by omega), ht, Option.bind_some, if_pos (by simp only [M.size_append]; omega), List.drop_of_length_le (by omega)]
    congr 1
    apply M.bs_inj
    simp only [M.bs_append, M.bs_sb, List.flatMap_nil, List.nil_append, List.append_assoc]
  | succ d ih =>
    intro i out hi ho
    have h1 : i < ps.length := by omega
    have r1 : rdOf ByteArray.empty ps (i : Int) = ps[i] := by simp [rdOf, List.getD, h1]
    have hz := hp ps[i] (List.getElem_mem h1)
    have hsz : (out ++ ps[i]).size ≤ 100 + 32 * (i + 1) := by rw [M.size_append, hz]; omega
    rw [pleachref35_Put_p.l0, if_pos (by omega), if_pos (by omega), if_pos (by omega), r1, if_pos (by omega), M.wrap64_id (by omega) (by omega), show (i : Int) + 1 = ((i + 1 : Nat) : Int) from by omega, ih (i + 1) _ (by omega) hsz, List.drop_eq_getElem_cons h1]
    congr 1
    apply M.bs_inj
    simp only [M.bs_append, M.bs_sb, List.flatMap_cons, List.append_assoc]
theorem pleachref35_Put.ev (n : Int) (ps : List ByteArray) (g note : ByteArray) (r : ByteArray) (h : pleachref35_Put.f n ps g note = some r) : ∃ k, pleachref35_Put_p.f k n ps g note = some r := by
  unfold pleachref35_Put.f at h
  obtain rfl := Option.some.inj h
  refine ⟨ps.length + 1, ?_⟩
  unfold pleachref35_Put_p.f pleachref35_Is.f
  rw [Option.bind_some]
  by_cases hc : M.isC n ps g note
  · obtain ⟨⟨hn0, hn1⟩, hp2, hg, hnote, hps, _⟩ := id hc
    have hv := M.vb_le n.toNat (by omega)
    have hv2 := M.vb_le ps.length (by omega)
    have e1 : pleachref04_PutNum.f n = some (M.sb (M.vb n.toNat)) := if_pos (by omega)
    have e2 : pleachref04_PutNum.f (ps.length : Int) = some (M.sb (M.vb ps.length)) := by
      have : pleachref04_PutNum.f (ps.length : Int) = some (M.sb (M.vb (ps.length : Int).toNat)) := if_pos (by omega)
      rw [this, Int.toNat_natCast]
    have e3 : (⟨#[67]⟩ : ByteArray) = M.sb [67] := rfl
    rw [if_pos (decide_eq_true hc), e1, Option.bind_some, e3, if_pos (by rw [M.size_sb]; omega), e2, Option.bind_some, if_pos (by rw [M.size_append, M.size_sb, M.size_sb, M.size_sb]; simp only [List.length_cons, List.length_nil]; omega)]
    have := pleachref35_Put.loop n ps g note hp2 hps hg hnote ps.length 0 (M.sb [67] ++ M.sb (M.vb n.toNat) ++ M.sb (M.vb ps.length)) (by omega) (by rw [M.size_append, M.size_append, M.size_sb, M.size_sb, M.size_sb]; simp only [List.length_cons, List.length_nil]; omega)
    rw [show ((0 : Nat) : Int) = 0 from rfl] at this
    rw [this, if_pos hc]
    congr 1
    apply M.bs_inj
    simp only [M.bs_append, M.bs_sb, M.cput, List.drop_zero, List.append_assoc]
  · rw [if_neg (by simp [hc]), if_neg hc]
theorem pleachref35_Put.calls (a0_0 : Int) (A0_1 : Option Addr) (c0_1 : Nat) (l0_1 : List ByteArray) (a0_2 : ByteArray) (a0_3 : ByteArray) (r : ByteArray) (w : World) (hr0_1 : Kd.C Kd.string w A0_1 l0_1.length l0_1) (hc0_1 : l0_1.length ≤ c0_1) (h : pleachref35_Put.f a0_0 l0_1 a0_2 a0_3 = some r) :
    Calls Tryd.prog 17 #[.agg #[.int .i64 a0_0, .slice A0_1 l0_1.length c0_1, .string a0_2, .string a0_3]] w fun e w' => e = .returned (.string r) ∧ Below w.heap.size w w' := by
  obtain ⟨k, hk⟩ := pleachref35_Put.ev _ _ _ _ _ h
  exact pleachref35_Put_p.calls (k := k) (w := w) (h := hk) (hr0_1 := hr0_1) (hc0_1 := hc0_1)

/-! ### pleachref04_fix_p: function 57 -/
def pleachref04_fix_p.f (a0_0 : ByteArray) (a0_1 : Int) (a0_2 : Int) (a1 : Int) : Option (ByteArray × Int × Int × ByteArray) := if a0_2 = 0 then (if a1 < 0 then (some (a0_0, a0_1, 3, (⟨#[]⟩ : ByteArray))) else (if a1 > (wrap64 ((a0_0.size : Int) - a0_1)) then (some (a0_0, a0_1, 3, (⟨#[]⟩ : ByteArray))) else (if 0 ≤ a0_1 then (if a0_1 ≤ (wrap64 (a0_1 + a1)) then (if (wrap64 (a0_1 + a1)) ≤ (a0_0.size : Int) then (some (a0_0, wrap64 (a0_1 + a1), a0_2, a0_0.extract (a0_1 : Int).toNat ((wrap64 (a0_1 + a1)) : Int).toNat)) else (none)) else (none)) else (none)))) else (some (a0_0, a0_1, a0_2, (⟨#[]⟩ : ByteArray)))
set_option maxHeartbeats 8000000 in
set_option maxRecDepth 100000 in
theorem pleachref04_fix_p.calls (a0_0 : ByteArray) (a0_1 : Int) (a0_2 : Int) (a1 : Int) (r1 : ByteArray) (r2 : Int) (r3 : Int) (r4 : ByteArray) (w : World) (h : pleachref04_fix_p.f a0_0 a0_1 a0_2 a1 = some (r1, r2, r3, r4)) :
    Calls Tryd.prog 57 #[.agg #[.string a0_0, .int .i64 a0_1, .int .i64 a0_2], .int .i64 a1] w fun e w' => e = .returned (.tuple #[.agg #[.string r1, .int .i64 r2, .int .i64 r3], .string r4]) ∧ Below w.heap.size w w' := by
  have hu70 := Tryd.underlying70
  have HB := Aside0.mk (Below.refl w.heap.size w)
  have H : (if a0_2 = 0 then (if a1 < 0 then (some (a0_0, a0_1, 3, (⟨#[]⟩ : ByteArray))) else (if a1 > (wrap64 ((a0_0.size : Int) - a0_1)) then (some (a0_0, a0_1, 3, (⟨#[]⟩ : ByteArray))) else (if 0 ≤ a0_1 then (if a0_1 ≤ (wrap64 (a0_1 + a1)) then (if (wrap64 (a0_1 + a1)) ≤ (a0_0.size : Int) then (some (a0_0, wrap64 (a0_1 + a1), a0_2, a0_0.extract (a0_1 : Int).toNat ((wrap64 (a0_1 + a1)) : Int).toNat)) else (none)) else (none)) else (none)))) else (some (a0_0, a0_1, a0_2, (⟨#[]⟩ : ByteArray)))) = some (r1, r2, r3, r4) := h
  clear h
  by_cases c3 : a0_2 = 0
  · rw [if_pos c3] at H
    have c3b0 : (a0_2 == 0) = true := beq_iff_eq.mpr c3
    have c3b1 : (a0_2 != 0) = false := bne_eq_false_iff_eq.mpr c3
    clear c3
    by_cases c4 : a1 < 0
    · rw [if_pos c4] at H
      have c4b0 : decide (a1 < 0) = true := decide_eq_true c4
      clear c4
      simp only [Option.some.injEq, Prod.mk.injEq] at H
      obtain ⟨rfl, rfl, rfl, rfl⟩ := H
      go_enter Tryd.func57, Tryd.ntmps57
      go_wp2_with (first | ((with_reducible refine gate_dst (N := 2) rfl ?_); (try (refine gate_guard (by rfl) ?_; dsimp only)); refine box_event ?hg (N := 2) ?hd (cs := #[.string a0_0, .int .i64 a0_1, .int .i64 a0_2]) (t := 70) ?hr ?_; (case hd => rfl); (case hg => rfl); (case hr => first | (go_simp; done) | (go_simp; rfl)); intro zaG hg w5 hbox hb; have n0_ := M.upS HB hb; have n1_ := Aside0.mk (hbox); have n2_ := M.upG HB hg; have n3_ := M.upG HB hg; clear HB; have HB := n0_; have zaH := n1_; have zaI := n2_; have zaJ := n3_; clear n0_ n1_ n2_ n3_; clear hb hbox hg) | ((with_reducible refine gate_dst (N := 4) rfl ?_); (try (refine gate_guard (by rfl) ?_; dsimp only)); refine box_event ?hg (N := 4) ?hd (cs := #[.string (⟨#[]⟩ : ByteArray), .int .i64 0, .int .i64 0]) (t := 70) ?hr ?_; (case hd => rfl); (case hg => rfl); (case hr => first | (go_simp; done) | (go_simp; rfl)); intro zaK hg w6 hbox hb; have n0_ := M.bkB zaH hb; have n1_ := M.upS HB hb; have n2_ := Aside0.mk (hbox); have n3_ := M.upG HB hg; have n4_ := M.upG HB hg; have n5_ := M.bkL zaH hg; have n6_ := M.bkG zaH hg; clear zaH HB; have zaH := n0_; have HB := n1_; have zaL := n2_; have zaM := n3_; have zaN := n4_; have zaO := n5_; have zaP := n6_; clear n0_ n1_ n2_ n3_ n4_ n5_ n6_; clear hb hbox hg; have zaQ := zaO.out; have zaR := zaP.out; obtain ⟨zaS, zaT, zaU⟩ := M.bc3 (w := w6) (a := .string a0_0) (b := .int .i64 a0_1) (c := .int .i64 a0_2) zaH.out; obtain ⟨zaV, zaW, zaX⟩ := M.bf3 zaH; obtain ⟨zai, zaj, zak⟩ := M.bc3 (w := w6) (a := .string (⟨#[]⟩ : ByteArray)) (b := .int .i64 0) (c := .int .i64 0) zaL.out; obtain ⟨zam, zan, zao⟩ := M.bf3 zaL))
      refine bodyPost_ret (results_ct rfl _ _ zaK 70 #[.string a0_0, .int .i64 a0_1, .int .i64 3] (0, 0) _ rfl (by (with_reducible repeat (first | refine blk_drewN ?_ _ | refine blk_drew ?_ | refine blk_alloc ?_ _)); refine blk_put (cs := #[.string a0_0, .int .i64 a0_1, .int .i64 0]) ?_ 2 _ rfl; (with_reducible repeat (first | refine blk_drewN ?_ _ | refine blk_drew ?_ | refine blk_alloc ?_ _)); refine blk_put (cs := #[.string a0_0, .int .i64 0, .int .i64 0]) ?_ 1 _ rfl; (with_reducible repeat (first | refine blk_drewN ?_ _ | refine blk_drew ?_ | refine blk_alloc ?_ _)); refine blk_put (cs := #[.string (⟨#[]⟩ : ByteArray), .int .i64 0, .int .i64 0]) ?_ 0 _ rfl; (with_reducible repeat (first | refine blk_drewN ?_ _ | refine blk_drew ?_ | refine blk_alloc ?_ _)); refine blk_far ?_ zaP.out _; (with_reducible repeat (first | refine blk_drewN ?_ _ | refine blk_drew ?_ | refine blk_alloc ?_ _)); exact zaL.out) Tryd.underlying70 rfl (by kernel_rfl)) rfl ?_
      exact M.fin (M.up HB)
    · rw [if_neg c4] at H
      have c4b0 : decide (a1 < 0) = false := decide_eq_false c4
      clear c4
      by_cases c10 : a1 > (wrap64 ((a0_0.size : Int) - a0_1))
      · rw [if_pos c10] at H
        have c10b0 : decide ((wrap64 ((a0_0.size : Int) - a0_1)) < a1) = true := decide_eq_true c10
        clear c10
        simp only [Option.some.injEq, Prod.mk.injEq] at H
        obtain ⟨rfl, rfl, rfl, rfl⟩ := H
        go_enter Tryd.func57, Tryd.ntmps57
        go_wp2_with (first | ((with_reducible refine gate_dst (N := 2) rfl ?_); (try (refine gate_guard (by rfl) ?_; dsimp only)); refine box_event ?hg (N := 2) ?hd (cs := #[.string a0_0, .int .i64 a0_1, .int .i64 a0_2]) (t := 70) ?hr ?_; (case hd => rfl); (case hg => rfl); (case hr => first | (go_simp; done) | (go_simp; rfl)); intro zaG hg w11 hbox hb; have n0_ := M.upS HB hb; have n1_ := Aside0.mk (hbox); have n2_ := M.upG HB hg; have n3_ := M.upG HB hg; clear HB; have HB := n0_; have zaH := n1_; have zaI := n2_; have zaJ := n3_; clear n0_ n1_ n2_ n3_; clear hb hbox hg) | ((with_reducible refine gate_dst (N := 4) rfl ?_); (try (refine gate_guard (by rfl) ?_; dsimp only)); refine box_event ?hg (N := 4) ?hd (cs := #[.string (⟨#[]⟩ : ByteArray), .int .i64 0, .int .i64 0]) (t := 70) ?hr ?_; (case hd => rfl); (case hg => rfl); (case hr => first | (go_simp; done) | (go_simp; rfl)); intro zaK hg w12 hbox hb; have n0_ := M.bkB zaH hb; have n1_ := M.upS HB hb; have n2_ := Aside0.mk (hbox); have n3_ := M.upG HB hg; have n4_ := M.upG HB hg; have n5_ := M.bkL zaH hg; have n6_ := M.bkG zaH hg; clear zaH HB; have zaH := n0_; have HB := n1_; have zaL := n2_; have zaM := n3_; have zaN := n4_; have zaO := n5_; have zaP := n6_; clear n0_ n1_ n2_ n3_ n4_ n5_ n6_; clear hb hbox hg; have zaY := zaO.out; have zaZ := zaP.out; obtain ⟨zaq, zar, zas⟩ := M.bc3 (w := w12) (a := .string a0_0) (b := .int .i64 a0_1) (c := .int .i64 a0_2) zaH.out; obtain ⟨zau, zav, zaw⟩ := M.bf3 zaH; obtain ⟨za0, za1, za2⟩ := M.bc3 (w := w12) (a := .string (⟨#[]⟩ : ByteArray)) (b := .int .i64 0) (c := .int .i64 0) zaL.out; obtain ⟨za3, za4, za5⟩ := M.bf3 zaL))
        refine bodyPost_ret (results_ct rfl _ _ zaK 70 #[.string a0_0, .int .i64 a0_1, .int .i64 3] (0, 0) _ rfl (by (with_reducible repeat (first | refine blk_drewN ?_ _ | refine blk_drew ?_ | refine blk_alloc ?_ _)); refine blk_put (cs := #[.string a0_0, .int .i64 a0_1, .int .i64 0]) ?_ 2 _ rfl; (with_reducible repeat (first | refine blk_drewN ?_ _ | refine blk_drew ?_ | refine blk_alloc ?_ _)); refine blk_put (cs := #[.string a0_0, .int .i64 0, .int .i64 0]) ?_ 1 _ rfl; (with_reducible repeat (first | refine blk_drewN ?_ _ | refine blk_drew ?_ | refine blk_alloc ?_ _)); refine blk_put (cs := #[.string (⟨#[]⟩ : ByteArray), .int .i64 0, .int .i64 0]) ?_ 0 _ rfl; (with_reducible repeat (first | refine blk_drewN ?_ _ | refine blk_drew ?_ | refine blk_alloc ?_ _)); refine blk_far ?_ zaP.out _; (with_reducible repeat (first | refine blk_drewN ?_ _ | refine blk_drew ?_ | refine blk_alloc ?_ _)); exact zaL.out) Tryd.underlying70 rfl (by kernel_rfl)) rfl ?_
        exact M.fin (M.up HB)
      · rw [if_neg c10] at H
        have c10b0 : decide ((wrap64 ((a0_0.size : Int) - a0_1)) < a1) = false := decide_eq_false c10
        clear c10
        by_cases c16 : 0 ≤ a0_1
        · rw [if_pos c16] at H
          have c16b0 := eq_true c16
          have c16b1 : decide (0 ≤ a0_1) = true := decide_eq_true c16
          clear c16
          by_cases c17 : a0_1 ≤ (wrap64 (a0_1 + a1))
          · rw [if_pos c17] at H
            have c17b0 := eq_true c17
            have c17b1 : decide (a0_1 ≤ (wrap64 (a0_1 + a1))) = true := decide_eq_true c17
            by_cases c18 : (wrap64 (a0_1 + a1)) ≤ (a0_0.size : Int)
            · rw [if_pos c18] at H
              have c18b0 := eq_true c18
              have c18b1 : decide ((wrap64 (a0_1 + a1)) ≤ (a0_0.size : Int)) = true := decide_eq_true c18
              simp only [Option.some.injEq, Prod.mk.injEq] at H
              obtain ⟨rfl, rfl, rfl, rfl⟩ := H
              go_enter Tryd.func57, Tryd.ntmps57
              go_wp2_with (first | ((with_reducible refine gate_dst (N := 2) rfl ?_); (try (refine gate_guard (by rfl) ?_; dsimp only)); refine box_event ?hg (N := 2) ?hd (cs := #[.string a0_0, .int .i64 a0_1, .int .i64 a0_2]) (t := 70) ?hr ?_; (case hd => rfl); (case hg => rfl); (case hr => first | (go_simp; done) | (go_simp; rfl)); intro zaG hg w19 hbox hb; have n0_ := M.upS HB hb; have n1_ := Aside0.mk (hbox); have n2_ := M.upG HB hg; have n3_ := M.upG HB hg; clear HB; have HB := n0_; have zaH := n1_; have zaI := n2_; have zaJ := n3_; clear n0_ n1_ n2_ n3_; clear hb hbox hg) | ((with_reducible refine gate_dst (N := 4) rfl ?_); (try (refine gate_guard (by rfl) ?_; dsimp only)); refine box_event ?hg (N := 4) ?hd (cs := #[.string (⟨#[]⟩ : ByteArray), .int .i64 0, .int .i64 0]) (t := 70) ?hr ?_; (case hd => rfl); (case hg => rfl); (case hr => first | (go_simp; done) | (go_simp; rfl)); intro zaK hg w20 hbox hb; have n0_ := M.bkB zaH hb; have n1_ := M.upS HB hb; have n2_ := Aside0.mk (hbox); have n3_ := M.upG HB hg; have n4_ := M.upG HB hg; have n5_ := M.bkL zaH hg; have n6_ := M.bkG zaH hg; clear zaH HB; have zaH := n0_; have HB := n1_; have zaL := n2_; have zaM := n3_; have zaN := n4_; have zaO := n5_; have zaP := n6_; clear n0_ n1_ n2_ n3_ n4_ n5_ n6_; clear hb hbox hg; have za6 := zaO.out; have za7 := zaP.out; obtain ⟨za8, za9, zba⟩ := M.bc3 (w := w20) (a := .string a0_0) (b := .int .i64 a0_1) (c := .int .i64 a0_2) zaH.out; obtain ⟨zbb, zbc, zbd⟩ := M.bf3 zaH; obtain ⟨zbe, zbf, zbg⟩ := M.bc3 (w := w20) (a := .string (⟨#[]⟩ : ByteArray)) (b := .int .i64 0) (c := .int .i64 0) zaL.out; obtain ⟨zbh, zbi, zbj⟩ := M.bf3 zaL))
              refine bodyPost_ret (results_ct rfl _ _ zaK 70 #[.string a0_0, .int .i64 (wrap64 (a0_1 + a1)), .int .i64 a0_2] (0, 0) _ rfl (by (with_reducible repeat (first | refine blk_drewN ?_ _ | refine blk_drew ?_ | refine blk_alloc ?_ _)); refine blk_put (cs := #[.string a0_0, .int .i64 (wrap64 (a0_1 + a1)), .int .i64 0]) ?_ 2 _ rfl; (with_reducible repeat (first | refine blk_drewN ?_ _ | refine blk_drew ?_ | refine blk_alloc ?_ _)); refine blk_put (cs := #[.string a0_0, .int .i64 0, .int .i64 0]) ?_ 1 _ rfl; (with_reducible repeat (first | refine blk_drewN ?_ _ | refine blk_drew ?_ | refine blk_alloc ?_ _)); refine blk_put (cs := #[.string (⟨#[]⟩ : ByteArray), .int .i64 0, .int .i64 0]) ?_ 0 _ rfl; (with_reducible repeat (first | refine blk_drewN ?_ _ | refine blk_drew ?_ | refine blk_alloc ?_ _)); refine blk_far ?_ zaP.out _; (with_reducible repeat (first | refine blk_drewN ?_ _ | refine blk_drew ?_ | refine blk_alloc ?_ _)); exact zaL.out) Tryd.underlying70 rfl (by kernel_rfl)) rfl ?_
              exact M.fin (M.up HB)
            · rw [if_neg c18] at H
              exact absurd H (by simp)
          · rw [if_neg c17] at H
            exact absurd H (by simp)
        · rw [if_neg c16] at H
          exact absurd H (by simp)
  · rw [if_neg c3] at H
    have c3b0 : (a0_2 == 0) = false := beq_eq_false_iff_ne.mpr c3
    have c3b1 : (a0_2 != 0) = true := bne_iff_ne.mpr c3
    simp only [Option.some.injEq, Prod.mk.injEq] at H
    obtain ⟨rfl, rfl, rfl, rfl⟩ := H
    go_enter Tryd.func57, Tryd.ntmps57
    go_wp2_with (first | ((with_reducible refine gate_dst (N := 2) rfl ?_); (try (refine gate_guard (by rfl) ?_; dsimp only)); refine box_event ?hg (N := 2) ?hd (cs := #[.string a0_0, .int .i64 a0_1, .int .i64 a0_2]) (t := 70) ?hr ?_; (case hd => rfl); (case hg => rfl); (case hr => first | (go_simp; done) | (go_simp; rfl)); intro zaG hg w24 hbox hb; have n0_ := M.upS HB hb; have n1_ := Aside0.mk (hbox); have n2_ := M.upG HB hg; have n3_ := M.upG HB hg; clear HB; have HB := n0_; have zaH := n1_; have zaI := n2_; have zaJ := n3_; clear n0_ n1_ n2_ n3_; clear hb hbox hg) | ((with_reducible refine gate_dst (N := 4) rfl ?_); (try (refine gate_guard (by rfl) ?_; dsimp only)); refine box_event ?hg (N := 4) ?hd (cs := #[.string (⟨#[]⟩ : ByteArray), .int .i64 0, .int .i64 0]) (t := 70) ?hr ?_; (case hd => rfl); (case hg => rfl); (case hr => first | (go_simp; done) | (go_simp; rfl)); intro zaK hg w25 hbox hb; have n0_ := M.bkB zaH hb; have n1_ := M.upS HB hb; have n2_ := Aside0.mk (hbox); have n3_ := M.upG HB hg; have n4_ := M.upG HB hg; have n5_ := M.bkL zaH hg; have n6_ := M.bkG zaH hg; clear zaH HB; have zaH := n0_; have HB := n1_; have zaL := n2_; have zaM := n3_; have zaN := n4_; have zaO := n5_; have zaP := n6_; clear n0_ n1_ n2_ n3_ n4_ n5_ n6_; clear hb hbox hg; have zbk := zaO.out; have zbl := zaP.out; obtain ⟨zbm, zbn, zbo⟩ := M.bc3 (w := w25) (a := .string a0_0) (b := .int .i64 a0_1) (c := .int .i64 a0_2) zaH.out; obtain ⟨zbp, zbq, zbr⟩ := M.bf3 zaH; obtain ⟨zbs, zbt, zbu⟩ := M.bc3 (w := w25) (a := .string (⟨#[]⟩ : ByteArray)) (b := .int .i64 0) (c := .int .i64 0) zaL.out; obtain ⟨zbv, zbw, zbx⟩ := M.bf3 zaL))
    refine bodyPost_ret (results_ct rfl _ _ zaK 70 #[.string a0_0, .int .i64 a0_1, .int .i64 a0_2] (0, 0) _ rfl (by (with_reducible repeat (first | refine blk_drewN ?_ _ | refine blk_drew ?_ | refine blk_alloc ?_ _)); refine blk_put (cs := #[.string a0_0, .int .i64 a0_1, .int .i64 0]) ?_ 2 _ rfl; (with_reducible repeat (first | refine blk_drewN ?_ _ | refine blk_drew ?_ | refine blk_alloc ?_ _)); refine blk_put (cs := #[.string a0_0, .int .i64 0, .int .i64 0]) ?_ 1 _ rfl; (with_reducible repeat (first | refine blk_drewN ?_ _ | refine blk_drew ?_ | refine blk_alloc ?_ _)); refine blk_put (cs := #[.string (⟨#[]⟩ : ByteArray), .int .i64 0, .int .i64 0]) ?_ 0 _ rfl; (with_reducible repeat (first | refine blk_drewN ?_ _ | refine blk_drew ?_ | refine blk_alloc ?_ _)); exact zaL.out) Tryd.underlying70 rfl (by kernel_rfl)) rfl ?_
    exact M.fin (M.up HB)

-- this session's own plain form
def pleachref04_fix.f (a0_0 : ByteArray) (a0_1 : Int) (a0_2 : Int) (a1 : Int) : Option (ByteArray × Int × Int × ByteArray) :=
  if M.sok a0_0 a0_1 ∧ -9223372036854775808 ≤ a1 ∧ a1 ≤ 9223372036854775807 then some (a0_0, (M.xfix a0_0 a0_1 a0_2 a1).2.1, (M.xfix a0_0 a0_1 a0_2 a1).2.2, (M.xfix a0_0 a0_1 a0_2 a1).1) else none
theorem pleachref04_fix.ev (s : ByteArray) (p er n : Int) (r : ByteArray × Int × Int × ByteArray) (h : pleachref04_fix.f s p er n = some r) : pleachref04_fix_p.f s p er n = some r := by
  unfold pleachref04_fix.f at h
  split at h
  case isFalse => cases h
  case isTrue hh =>
    obtain ⟨hs, hn, hn'⟩ := hh
    unfold pleachref04_fix_p.f
    rw [← h]
    unfold M.xfix
    by_cases he : er = 0
    · subst he
      have hc := M.fix_code s hs hn hn'
      simp only [if_true] at hc ⊢
      generalize M.sfix s p n = q at hc ⊢
      revert hc
      (repeat' split) <;> intro hc <;> first | (cases hc; rfl) | (cases hc; done)
    · simp only [if_neg he]; rfl
theorem pleachref04_fix.calls (a0_0 : ByteArray) (a0_1 : Int) (a0_2 : Int) (a1 : Int) (r1 : ByteArray) (r2 : Int) (r3 : Int) (r4 : ByteArray) (w : World) (h : pleachref04_fix.f a0_0 a0_1 a0_2 a1 = some (r1, r2, r3, r4)) :
    Calls Tryd.prog 57 #[.agg #[.string a0_0, .int .i64 a0_1, .int .i64 a0_2], .int .i64 a1] w fun e w' => e = .returned (.tuple #[.agg #[.string r1, .int .i64 r2, .int .i64 r3], .string r4]) ∧ Below w.heap.size w w' := by
  exact pleachref04_fix_p.calls (w := w) (h := pleachref04_fix.ev _ _ _ _ _ h)

/-! ### pleachref04_Byte_p: function 36 -/
def pleachref04_Byte_p.f (a0_0 : ByteArray) (a0_1 : Int) (a0_2 : Int) : Option (ByteArray × Int × Int × Int) := (pleachref04_fix.f a0_0 a0_1 a0_2 1).bind fun bt215 => (if bt215.2.2.1 = 0 then (if 0 < (bt215.2.2.2.size : Int) then (some (bt215.1, bt215.2.1, bt215.2.2.1, wrap64 (bt bt215.2.2.2 0))) else (none)) else (some (bt215.1, bt215.2.1, bt215.2.2.1, 0)))
set_option maxHeartbeats 8000000 in
set_option maxRecDepth 100000 in
theorem pleachref04_Byte_p.calls (a0_0 : ByteArray) (a0_1 : Int) (a0_2 : Int) (r1 : ByteArray) (r2 : Int) (r3 : Int) (r4 : Int) (w : World) (h : pleachref04_Byte_p.f a0_0 a0_1 a0_2 = some (r1, r2, r3, r4)) :
    Calls Tryd.prog 36 #[.agg #[.string a0_0, .int .i64 a0_1, .int .i64 a0_2]] w fun e w' => e = .returned (.tuple #[.agg #[.string r1, .int .i64 r2, .int .i64 r3], .int .i64 r4]) ∧ Below w.heap.size w w' := by
  have hu70 := Tryd.underlying70
  have HB := Aside0.mk (Below.refl w.heap.size w)
  have H : ((pleachref04_fix.f a0_0 a0_1 a0_2 1).bind fun bt215 => (if bt215.2.2.1 = 0 then (if 0 < (bt215.2.2.2.size : Int) then (some (bt215.1, bt215.2.1, bt215.2.2.1, wrap64 (bt bt215.2.2.2 0))) else (none)) else (some (bt215.1, bt215.2.1, bt215.2.2.1, 0)))) = some (r1, r2, r3, r4) := h
  clear h
  replace H := Option.bind_eq_some_iff.mp H
  obtain ⟨⟨t215, t216, t217, t218⟩, A20, H⟩ := H
  replace H : (if t217 = 0 then (if 0 < (t218.size : Int) then (some (t215, t216, t217, wrap64 (bt t218 0))) else (none)) else (some (t215, t216, t217, 0))) = some (r1, r2, r3, r4) := H
  have A2 := Aside0.mk A20
  clear A20
  by_cases c3 : t217 = 0
  · rw [if_pos c3] at H
    have c3b0 : (t217 == 0) = true := beq_iff_eq.mpr c3
    have c3b1 : (t217 != 0) = false := bne_eq_false_iff_eq.mpr c3
    clear c3
    by_cases c4 : 0 < (t218.size : Int)
    · rw [if_pos c4] at H
      have c4b0 : decide (0 < (t218.size : Int)) = true := decide_eq_true c4
      have c4b1 : decide (0 < t218.size) = true := decide_eq_true (by omega)
      clear c4
      simp only [Option.some.injEq, Prod.mk.injEq] at H
      obtain ⟨rfl, rfl, rfl, rfl⟩ := H
      go_enter Tryd.func36, Tryd.ntmps36
      try go_wp2_with (first | ((with_reducible refine gate_dst (N := 1) rfl ?_); refine box_event ?hg (N := 1) ?hd (cs := #[.string a0_0, .int .i64 a0_1, .int .i64 a0_2]) (t := 70) ?hr ?_; (case hd => rfl); (case hg => rfl); (case hr => first | (go_simp; done) | (go_simp; rfl)); intro zby hg w6 hbox hb; have n0_ := M.upS HB hb; have n1_ := Aside0.mk (hbox); have n2_ := M.upG HB hg; have n3_ := M.upG HB hg; clear HB; have HB := n0_; have zbz := n1_; have zbA := n2_; have zbB := n3_; clear n0_ n1_ n2_ n3_; clear hb hbox hg) | ((with_reducible refine gate_dst (N := 2) rfl ?_); refine box_event ?hg (N := 2) ?hd (cs := #[.string (⟨#[]⟩ : ByteArray), .int .i64 0, .int .i64 0]) (t := 70) ?hr ?_; (case hd => rfl); (case hg => rfl); (case hr => first | (go_simp; done) | (go_simp; rfl)); intro zbC hg w7 hbox hb; have n0_ := M.bkB zbz hb; have n1_ := M.upS HB hb; have n2_ := Aside0.mk (hbox); have n3_ := M.upG HB hg; have n4_ := M.upG HB hg; have n5_ := M.bkL zbz hg; have n6_ := M.bkG zbz hg; clear zbz HB; have zbz := n0_; have HB := n1_; have zbD := n2_; have zbE := n3_; have zbF := n4_; have zbG := n5_; have zbH := n6_; clear n0_ n1_ n2_ n3_ n4_ n5_ n6_; clear hb hbox hg; have zbI := zbG.out; have zbJ := zbH.out; obtain ⟨zai, zaj, zak⟩ := M.bc3 (w := w7) (a := .string a0_0) (b := .int .i64 a0_1) (c := .int .i64 a0_2) zbz.out; obtain ⟨zam, zan, zao⟩ := M.bf3 zbz) | ((with_reducible refine gate_callee (f := 57) rfl ?_); refine M.goes (some 7) Tryd.func57 #[.agg #[.string a0_0, .int .i64 a0_1, .int .i64 a0_2], .int .i64 1] rfl ?_; (with_reducible refine (pleachref04_fix.calls a0_0 a0_1 a0_2 1 t215 t216 t217 t218 _ A2.out).mono ?_); rintro e w10 ⟨rfl, hb⟩; refine ⟨_, rfl, ?_⟩; have n0_ := M.bkB zbz hb; have n1_ := M.bkB zbD hb; have n2_ := M.upS HB hb; clear zbz zbD HB; have zbz := n0_; have zbD := n1_; have HB := n2_; clear n0_ n1_ n2_; (try clear hb); obtain ⟨zbK, zbL, zbM⟩ := M.bc3 (w := w10) (a := .string a0_0) (b := .int .i64 a0_1) (c := .int .i64 a0_2) zbz.out; obtain ⟨zbN, zbO, zbP⟩ := M.bf3 zbz))
      have n0_ : Aside0 ((((w10.setCell ⟨zby, 0, none⟩ (.string t215)).setCell ⟨zby, 1, none⟩ (.int .i64 t216)).setCell ⟨zby, 2, none⟩ (.int .i64 t217)).heap[zby]? = some (.cells #[.string t215, .int .i64 t216, .int .i64 t217] 70 (0, 0))) := ⟨by (with_reducible repeat (first | refine blk_drewN ?_ _ | refine blk_drew ?_ | refine blk_alloc ?_ _)); refine blk_put (cs := #[.string t215, .int .i64 t216, .int .i64 a0_2]) ?_ 2 _ rfl; (with_reducible repeat (first | refine blk_drewN ?_ _ | refine blk_drew ?_ | refine blk_alloc ?_ _)); refine blk_put (cs := #[.string t215, .int .i64 a0_1, .int .i64 a0_2]) ?_ 1 _ rfl; (with_reducible repeat (first | refine blk_drewN ?_ _ | refine blk_drew ?_ | refine blk_alloc ?_ _)); refine blk_put (cs := #[.string a0_0, .int .i64 a0_1, .int .i64 a0_2]) ?_ 0 _ rfl; (with_reducible repeat (first | refine blk_drewN ?_ _ | refine blk_drew ?_ | refine blk_alloc ?_ _)); exact zbz.out⟩
      have n1_ : Aside0 ((((w10.setCell ⟨zby, 0, none⟩ (.string t215)).setCell ⟨zby, 1, none⟩ (.int .i64 t216)).setCell ⟨zby, 2, none⟩ (.int .i64 t217)).heap[zbC]? = some (.cells #[.string (⟨#[]⟩ : ByteArray), .int .i64 0, .int .i64 0] 70 (0, 0))) := ⟨by (with_reducible repeat (first | refine blk_drewN ?_ _ | refine blk_drew ?_ | refine blk_alloc ?_ _)); refine blk_far ?_ zbH.out _; (with_reducible repeat (first | refine blk_drewN ?_ _ | refine blk_drew ?_ | refine blk_alloc ?_ _)); refine blk_far ?_ zbH.out _; (with_reducible repeat (first | refine blk_drewN ?_ _ | refine blk_drew ?_ | refine blk_alloc ?_ _)); refine blk_far ?_ zbH.out _; (with_reducible repeat (first | refine blk_drewN ?_ _ | refine blk_drew ?_ | refine blk_alloc ?_ _)); exact zbD.out⟩
      have n2_ : Aside0 (Below w.heap.size w (((w10.setCell ⟨zby, 0, none⟩ (.string t215)).setCell ⟨zby, 1, none⟩ (.int .i64 t216)).setCell ⟨zby, 2, none⟩ (.int .i64 t217))) := ⟨M.up HB⟩
      (try clear zbz)
      (try clear zbD)
      (try clear HB)
      generalize (((w10.setCell ⟨zby, 0, none⟩ (.string t215)).setCell ⟨zby, 1, none⟩ (.int .i64 t216)).setCell ⟨zby, 2, none⟩ (.int .i64 t217)) = w12 at n0_ n1_ n2_ ⊢
      have zbz := n0_
      have zbD := n1_
      have HB := n2_
      clear n0_ n1_ n2_
      have n0_ := Aside0.mk (blk_drew zbz.out)
      have n1_ := Aside0.mk (blk_drew zbD.out)
      have n2_ := Aside0.mk (below_drew1 HB.out)
      clear zbz zbD HB
      have zbz := n0_
      have zbD := n1_
      have HB := n2_
      clear n0_ n1_ n2_
      have p5 : 0 ≤ (0 : Int) := (by omega)
      have q5 : 0 < t218.size := (by have : (0 : Int) < (t218.size : Int) := of_decide_eq_true (by first | (with_reducible assumption) | assumption); omega)
      have hx5 : ∀ h : 0 < t218.size, ((t218[0]'h).toNat : Int) = bt t218 0 := bt_at t218 0
      clear p5
      have qi5 : (0 < (t218.size : Int)) = True := eq_true (of_decide_eq_true (by first | (with_reducible assumption) | assumption))
      replace q5 := eq_true q5
      refine start_ (n := 6) (S := fun w' => w'.cell? ⟨zby, 0, none⟩ = some (.string t215) ∧ w'.cell? ⟨zby, 1, none⟩ = some (.int .i64 t216) ∧ w'.cell? ⟨zby, 2, none⟩ = some (.int .i64 t217)) (ds := []) #[false, false, false, false, false, false] (by kernel_rfl) rfl rfl ⟨(blk_cell zbz.out 0).trans rfl, (blk_cell zbz.out 1).trans rfl, (blk_cell zbz.out 2).trans rfl⟩ (fun hHeld => ?_)
      generalize w12.drew = w13 at zbz zbD HB hHeld ⊢
      refine pure_ (i := 1) (N := some 15) (v := ?_) (a' := ?_) #[false, true, false, false, false, false] rfl rfl (by kernel_rfl) (fun _ _ _ h => h) (Or.inl ⟨by rfl, ?_⟩) ?_ ?_
      rotate_left
      · intro w'
        go_simp
        with_reducible rfl
      rotate_left
      · simp only [Act.put, List.setIfInBounds_toArray, List.set_cons_zero, List.set_cons_succ, i64_w, i32_w]
        rfl
      refine take_ (i := 0) (N := some 14) (v := ?_) (a' := ?_) #[true, true, false, false, false, false] rfl rfl (by kernel_rfl) (fun _ _ _ h => h) (Or.inl ⟨by rfl, ?_⟩) hHeld ?_ ?_
      rotate_left
      · rintro w' ⟨s0, s1, s2⟩
        go_simp
        with_reducible rfl
      rotate_left
      · simp only [Act.put, List.setIfInBounds_toArray, List.set_cons_zero, List.set_cons_succ, i64_w, i32_w]
        rfl
      refine take_ (i := 2) (N := some 16) (v := ?_) (a' := ?_) #[true, true, true, false, false, false] rfl rfl (by kernel_rfl) (fun _ _ _ h => h) (Or.inl ⟨by rfl, ?_⟩) hHeld ?_ ?_
      rotate_left
      · rintro w' ⟨s0, s1, s2⟩
        go_simp
        with_reducible rfl
      rotate_left
      · simp only [Act.put, List.setIfInBounds_toArray, List.set_cons_zero, List.set_cons_succ, i64_w, i32_w]
        rfl
      refine pure_ (i := 3) (N := some 17) (v := ?_) (a' := ?_) #[true, true, true, true, false, false] rfl rfl (by kernel_rfl) (fun _ _ _ h => h) (Or.inl ⟨by rfl, ?_⟩) ?_ ?_
      rotate_left
      · intro w'
        go_simp
        with_reducible rfl
      rotate_left
      · simp only [Act.put, List.setIfInBounds_toArray, List.set_cons_zero, List.set_cons_succ, i64_w, i32_w]
        rfl
      refine one_ (i := 4) (N := none) #[true, true, true, true, true, false] rfl rfl (by kernel_rfl) (by decide) (fun K hK => ?_)
      have hs14 : w13.cell? ⟨zbC, 0, none⟩ = some (.string (⟨#[]⟩ : ByteArray)) := (blk_cell zbD.out 0).trans rfl
      have hfs14 := blk_frozen zbD.out 0
      have hns14_0 := zbG.out
      have hms14_0 := zbH.out
      have hs15 : w13.cell? ⟨zbC, 1, none⟩ = some (.int .i64 0) := (blk_cell zbD.out 1).trans rfl
      have hfs15 := blk_frozen zbD.out 1
      have hns15_0 := zbG.out
      have hms15_0 := zbH.out
      have hs16 : w13.cell? ⟨zbC, 2, none⟩ = some (.int .i64 0) := (blk_cell zbD.out 2).trans rfl
      have hfs16 := blk_frozen zbD.out 2
      have hns16_0 := zbG.out
      have hms16_0 := zbH.out
      refine skip_ (w1 := ?_) (by rfl) rfl ?_ ?_
      rotate_left
      · go_simp
        rfl
      refine hK.out _ _ ⟨((cell_far (p := ⟨zbC, _, none⟩) zbG.out _).trans (((cell_far (p := ⟨zbC, _, none⟩) zbG.out _).trans (((cell_far (p := ⟨zbC, _, none⟩) zbG.out _).trans (hHeld.1)))))), ((cell_far (p := ⟨zbC, _, none⟩) zbG.out _).trans (((cell_far (p := ⟨zbC, _, none⟩) zbG.out _).trans (((cell_far (p := ⟨zbC, _, none⟩) zbG.out _).trans (hHeld.2.1)))))), ((cell_far (p := ⟨zbC, _, none⟩) zbG.out _).trans (((cell_far (p := ⟨zbC, _, none⟩) zbG.out _).trans (((cell_far (p := ⟨zbC, _, none⟩) zbG.out _).trans (hHeld.2.2))))))⟩ (fun hHeld => ?_)
      clear hK K
      refine pure_ (i := 5) (N := some 3) (v := ?_) (a' := ?_) #[true, true, true, true, true, true] rfl rfl (by kernel_rfl) (fun _ _ _ h => h) (Or.inl ⟨by rfl, ?_⟩) ?_ ?_
      rotate_left
      · intro w'
        go_simp
        with_reducible rfl
      rotate_left
      · simp only [Act.put, List.setIfInBounds_toArray, List.set_cons_zero, List.set_cons_succ, i64_w, i32_w]
        rfl
      refine done_ (by kernel_rfl) ?_
      try go_wp2
      refine bodyPost_ret (results_ct rfl _ _ zbC 70 #[.string t215, .int .i64 t216, .int .i64 t217] (0, 0) _ rfl (by (with_reducible repeat (first | refine blk_drewN ?_ _ | refine blk_drew ?_ | refine blk_alloc ?_ _)); refine blk_put (cs := #[.string t215, .int .i64 t216, .int .i64 0]) ?_ 2 _ rfl; (with_reducible repeat (first | refine blk_drewN ?_ _ | refine blk_drew ?_ | refine blk_alloc ?_ _)); refine blk_put (cs := #[.string t215, .int .i64 0, .int .i64 0]) ?_ 1 _ rfl; (with_reducible repeat (first | refine blk_drewN ?_ _ | refine blk_drew ?_ | refine blk_alloc ?_ _)); refine blk_put (cs := #[.string (⟨#[]⟩ : ByteArray), .int .i64 0, .int .i64 0]) ?_ 0 _ rfl; (with_reducible repeat (first | refine blk_drewN ?_ _ | refine blk_drew ?_ | refine blk_alloc ?_ _)); exact zbD.out) Tryd.underlying70 rfl (by kernel_rfl)) rfl ?_
      exact M.fin (M.up HB)
    · rw [if_neg c4] at H
      exact absurd H (by simp)
  · rw [if_neg c3] at H
    have c3b0 : (t217 == 0) = false := beq_eq_false_iff_ne.mpr c3
    have c3b1 : (t217 != 0) = true := bne_iff_ne.mpr c3
    simp only [Option.some.injEq, Prod.mk.injEq] at H
    obtain ⟨rfl, rfl, rfl, rfl⟩ := H
    go_enter Tryd.func36, Tryd.ntmps36
    go_wp2_with (first | ((with_reducible refine gate_dst (N := 1) rfl ?_); refine box_event ?hg (N := 1) ?hd (cs := #[.string a0_0, .int .i64 a0_1, .int .i64 a0_2]) (t := 70) ?hr ?_; (case hd => rfl); (case hg => rfl); (case hr => first | (go_simp; done) | (go_simp; rfl)); intro zby hg w17 hbox hb; have n0_ := M.upS HB hb; have n1_ := Aside0.mk (hbox); have n2_ := M.upG HB hg; have n3_ := M.upG HB hg; clear HB; have HB := n0_; have zbz := n1_; have zbA := n2_; have zbB := n3_; clear n0_ n1_ n2_ n3_; clear hb hbox hg) | ((with_reducible refine gate_dst (N := 2) rfl ?_); refine box_event ?hg (N := 2) ?hd (cs := #[.string (⟨#[]⟩ : ByteArray), .int .i64 0, .int .i64 0]) (t := 70) ?hr ?_; (case hd => rfl); (case hg => rfl); (case hr => first | (go_simp; done) | (go_simp; rfl)); intro zbC hg w18 hbox hb; have n0_ := M.bkB zbz hb; have n1_ := M.upS HB hb; have n2_ := Aside0.mk (hbox); have n3_ := M.upG HB hg; have n4_ := M.upG HB hg; have n5_ := M.bkL zbz hg; have n6_ := M.bkG zbz hg; clear zbz HB; have zbz := n0_; have HB := n1_; have zbD := n2_; have zbE := n3_; have zbF := n4_; have zbG := n5_; have zbH := n6_; clear n0_ n1_ n2_ n3_ n4_ n5_ n6_; clear hb hbox hg; have zbQ := zbG.out; have zbR := zbH.out; obtain ⟨zbS, zbT, zbU⟩ := M.bc3 (w := w18) (a := .string a0_0) (b := .int .i64 a0_1) (c := .int .i64 a0_2) zbz.out; obtain ⟨zbV, zbW, zbX⟩ := M.bf3 zbz) | ((with_reducible refine gate_callee (f := 57) rfl ?_); refine M.goes (some 7) Tryd.func57 #[.agg #[.string a0_0, .int .i64 a0_1, .int .i64 a0_2], .int .i64 1] rfl ?_; (with_reducible refine (pleachref04_fix.calls a0_0 a0_1 a0_2 1 t215 t216 t217 t218 _ A2.out).mono ?_); rintro e w21 ⟨rfl, hb⟩; refine ⟨_, rfl, ?_⟩; have n0_ := M.bkB zbz hb; have n1_ := M.bkB zbD hb; have n2_ := M.upS HB hb; clear zbz zbD HB; have zbz := n0_; have zbD := n1_; have HB := n2_; clear n0_ n1_ n2_; (try clear hb); obtain ⟨za8, za9, zba⟩ := M.bc3 (w := w21) (a := .string a0_0) (b := .int .i64 a0_1) (c := .int .i64 a0_2) zbz.out; obtain ⟨zbb, zbc, zbd⟩ := M.bf3 zbz; obtain ⟨zbe, zbf, zbg⟩ := M.bc3 (w := w21) (a := .string (⟨#[]⟩ : ByteArray)) (b := .int .i64 0) (c := .int .i64 0) zbD.out; obtain ⟨zbh, zbi, zbj⟩ := M.bf3 zbD))
    refine bodyPost_ret (results_ct rfl _ _ zbC 70 #[.string t215, .int .i64 t216, .int .i64 t217] (0, 0) _ rfl (by (with_reducible repeat (first | refine blk_drewN ?_ _ | refine blk_drew ?_ | refine blk_alloc ?_ _)); refine blk_put (cs := #[.string t215, .int .i64 t216, .int .i64 0]) ?_ 2 _ rfl; (with_reducible repeat (first | refine blk_drewN ?_ _ | refine blk_drew ?_ | refine blk_alloc ?_ _)); refine blk_put (cs := #[.string t215, .int .i64 0, .int .i64 0]) ?_ 1 _ rfl; (with_reducible repeat (first | refine blk_drewN ?_ _ | refine blk_drew ?_ | refine blk_alloc ?_ _)); refine blk_put (cs := #[.string (⟨#[]⟩ : ByteArray), .int .i64 0, .int .i64 0]) ?_ 0 _ rfl; (with_reducible repeat (first | refine blk_drewN ?_ _ | refine blk_drew ?_ | refine blk_alloc ?_ _)); refine blk_far ?_ zbH.out _; (with_reducible repeat (first | refine blk_drewN ?_ _ | refine blk_drew ?_ | refine blk_alloc ?_ _)); refine blk_far ?_ zbH.out _; (with_reducible repeat (first | refine blk_drewN ?_ _ | refine blk_drew ?_ | refine blk_alloc ?_ _)); refine blk_far ?_ zbH.out _; (with_reducible repeat (first | refine blk_drewN ?_ _ | refine blk_drew ?_ | refine blk_alloc ?_ _)); exact zbD.out) Tryd.underlying70 rfl (by kernel_rfl)) rfl ?_
    exact M.fin (M.up HB)

-- this session's own plain form
def pleachref04_Byte.f (a0_0 : ByteArray) (a0_1 : Int) (a0_2 : Int) : Option (ByteArray × Int × Int × Int) :=
  if M.sok a0_0 a0_1 then some (a0_0, (M.xbyte a0_0 a0_1 a0_2).2.1, (M.xbyte a0_0 a0_1 a0_2).2.2, (M.xbyte a0_0 a0_1 a0_2).1) else none
theorem pleachref04_Byte.ev (s : ByteArray) (p er : Int) (r : ByteArray × Int × Int × Int) (h : pleachref04_Byte.f s p er = some r) : pleachref04_Byte_p.f s p er = some r := by
  unfold pleachref04_Byte.f at h
  split at h
  case isFalse => cases h
  case isTrue hs =>
    unfold pleachref04_Byte_p.f pleachref04_fix.f
    rw [if_pos ⟨hs, by decide, by decide⟩, Option.bind_some, ← h]
    have hb := M.byte_of s hs
    unfold M.xfix M.xbyte
    by_cases he : er = 0
    · simp only [if_pos he]
      by_cases hp : p < s.size
      · obtain ⟨e1, e2, e3⟩ := hb hp
        unfold M.sfix
        have c2 : ¬ ((1 : Int) < 0 ∨ (s.size : Int) - p < 1) := by omega
        rw [if_neg c2, if_pos hp]
        simp only [if_true]
        rw [if_pos e2, e3]
      · unfold M.sfix
        have c2 : (1 : Int) < 0 ∨ (s.size : Int) - p < 1 := by omega
        rw [if_pos c2, if_neg hp]
        rfl
    · simp only [if_neg he]
theorem pleachref04_Byte.calls (a0_0 : ByteArray) (a0_1 : Int) (a0_2 : Int) (r1 : ByteArray) (r2 : Int) (r3 : Int) (r4 : Int) (w : World) (h : pleachref04_Byte.f a0_0 a0_1 a0_2 = some (r1, r2, r3, r4)) :
    Calls Tryd.prog 36 #[.agg #[.string a0_0, .int .i64 a0_1, .int .i64 a0_2]] w fun e w' => e = .returned (.tuple #[.agg #[.string r1, .int .i64 r2, .int .i64 r3], .int .i64 r4]) ∧ Below w.heap.size w w' := by
  exact pleachref04_Byte_p.calls (w := w) (h := pleachref04_Byte.ev _ _ _ _ h)

end Go.Proofs.YtikdbklmhjlfoaaDoor.ECommitTakes
