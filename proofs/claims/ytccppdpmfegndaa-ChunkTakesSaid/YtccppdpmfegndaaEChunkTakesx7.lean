-- Written by this session's own program (wip/tools/ext.py) for this claim; Lean checks it.
import Derived.Test.YtccppdpmfegndaaEChunkTakesx0
import Derived.Test.YtccppdpmfegndaaEChunkTakesx2
import Derived.Test.YtccppdpmfegndaaEChunkTakesx3
import Derived.Test.YtccppdpmfegndaaEChunkTakesx5
import Derived.Test.YtccppdpmfegndaaEChunkTakesx6
namespace Go.Proofs.Ytccppdpmfegndaa.EChunkTakes
open Go.RowKit Go.Proofs.YtccppdpmfegndaaW.PrintWords Go.Proofs.YtccppdpmfegndaaW.PrintLast Go.Proofs.YtccppdpmfegndaaW.PrintMore
attribute [local go_sem] M.run_leq M.run_gtr M.run_geq max2_int min2_int max_two min_two max_three min_three max_four min_four   -- for this text's walks alone
set_option linter.unusedVariables false
set_option linter.unusedSimpArgs false

/-! ### scan_Scan_End: function 23 -/
def scan_Scan_End.f (s0_0 : ByteArray) (s0_1 : Int) (s0_2 : Int) (s0_3 : Bool) : Option (Int × ByteArray × Int × Int × Bool) :=
  if s0_3 = true then (if s0_2 = 0 ∧ s0_1 < s0_0.size then some (3, s0_0, s0_1, 3, true) else some (s0_2, s0_0, s0_1, s0_2, true)) else some (1, s0_0, s0_1, s0_2, false)

theorem scan_Scan_End.err1 (g : Nat) (s : ByteArray) (p er : Int) (w0 w : World) (hI : IsS66 w0 w g s p er true) :
    Calls Try.prog 33 #[.pointer (some ⟨g, 0, none⟩)] w fun e w' => e = .returned (.int .i64 er) ∧ w' = w := by
  have h2 := cellS66_2 hI.1
  have h3 := cellS66_3 hI.1
  clear hI
  go_enter Try.func33, Try.ntmps33
  go_wp2
  go_ret
  exact ⟨rfl, rfl⟩
theorem scan_Scan_End.err0 (g : Nat) (s : ByteArray) (p er : Int) (w0 w : World) (hI : IsS66 w0 w g s p er false) :
    Calls Try.prog 33 #[.pointer (some ⟨g, 0, none⟩)] w fun e w' => e = .returned (.int .i64 1) ∧ w' = w := by
  have h2 := cellS66_2 hI.1
  have h3 := cellS66_3 hI.1
  clear hI
  go_enter Try.func33, Try.ntmps33
  go_wp2
  go_ret
  exact ⟨rfl, rfl⟩

set_option maxHeartbeats 1000000 in
theorem scan_Scan_End.off (g : Nat) (s : ByteArray) (p er : Int) (w0 w : World) (hI : IsS66 w0 w g s p er true) (hB : Below w0.heap.size w0 w) (he : er ≠ 0) :
    Calls Try.prog 23 #[.pointer (some ⟨g, 0, none⟩)] w fun e w' => e = .returned (.int .i64 er) ∧ IsS66 w0 w' g s p er true ∧ Below w0.heap.size w0 w' ∧ KeepBut w w' g none := by
  have hb0 : (er == 0) = false := by simpa using he
  have HI := Aside0.mk hI
  have HB := Aside0.mk hB
  clear he hI hB
  go_enter Try.func23, Try.ntmps23
  go_wp2
  go_quiet ((go_at_call 33; exact Calls.quiet_of_same (scan_Scan_End.err1 g s p er w0 _ HI.out)))
  go_wp2_with (go_at_call 33; refine (scan_Scan_Err.calls g s p er true er s p er true w0 _ (IsS66.drewN HI.out _) (pw_below_drewN HB.out _) rfl).mono ?_; rintro e w2 ⟨rfl, hi2, hb2, hk2⟩)
  go_ret
  exact ⟨rfl, hi2, hb2, KeepBut.trans (keep_drewN (KeepBut.refl w g none) _) hk2 (.inl rfl)⟩

set_option maxHeartbeats 1000000 in
theorem scan_Scan_End.none_ (g : Nat) (s : ByteArray) (p er : Int) (w0 w : World) (hI : IsS66 w0 w g s p er false) (hB : Below w0.heap.size w0 w) :
    Calls Try.prog 23 #[.pointer (some ⟨g, 0, none⟩)] w fun e w' => e = .returned (.int .i64 1) ∧ IsS66 w0 w' g s p er false ∧ Below w0.heap.size w0 w' ∧ KeepBut w w' g none := by
  have HI := Aside0.mk hI
  have HB := Aside0.mk hB
  clear hI hB
  go_enter Try.func23, Try.ntmps23
  go_wp2
  go_quiet ((go_at_call 33; exact Calls.quiet_of_same (scan_Scan_End.err0 g s p er w0 _ HI.out)))
  go_wp2_with (go_at_call 33; refine (scan_Scan_Err.calls g s p er false 1 s p er false w0 _ (IsS66.drewN HI.out _) (pw_below_drewN HB.out _) rfl).mono ?_; rintro e w2 ⟨rfl, hi2, hb2, hk2⟩)
  go_ret
  exact ⟨rfl, hi2, hb2, KeepBut.trans (keep_drewN (KeepBut.refl w g none) _) hk2 (.inl rfl)⟩

set_option maxHeartbeats 1000000 in
theorem scan_Scan_End.more (g : Nat) (s : ByteArray) (p : Int) (w0 w : World) (hI : IsS66 w0 w g s p 0 true) (hB : Below w0.heap.size w0 w) (hp : p < s.size) :
    Calls Try.prog 23 #[.pointer (some ⟨g, 0, none⟩)] w fun e w' => e = .returned (.int .i64 3) ∧ IsS66 w0 w' g s p 3 true ∧ Below w0.heap.size w0 w' ∧ KeepBut w w' g none := by
  have ht : decide (p < (s.size : Int)) = true := decide_eq_true hp
  have hc0 := cellS66_0 hI.1
  have hc1 := cellS66_1 hI.1
  have hc2 := cellS66_2 hI.1
  have hf2 := blk_frozen hI.1 2
  have HI := Aside0.mk hI
  have HB := Aside0.mk hB
  clear hI hB hp
  go_enter Try.func23, Try.ntmps23
  go_wp2
  go_quiet ((go_at_call 33; exact Calls.quiet_of_same (scan_Scan_End.err1 g s p 0 w0 _ HI.out)))
  go_wp2_with (go_at_call 33; refine (scan_Scan_Err.calls g s p 3 true 3 s p 3 true w0 _ (IsS66.set_2 (IsS66.drewN HI.out _) 3) (below_set (pw_below_drewN HB.out _) (IsS66.ge HI.out)) rfl).mono ?_; rintro e w2 ⟨rfl, hi2, hb2, hk2⟩)
  go_ret
  exact ⟨rfl, hi2, hb2, KeepBut.trans (KeepBut.set_ (keep_drewN (KeepBut.refl w g none) _) _ _) hk2 (.inl rfl)⟩

set_option maxHeartbeats 1000000 in
theorem scan_Scan_End.done_ (g : Nat) (s : ByteArray) (p : Int) (w0 w : World) (hI : IsS66 w0 w g s p 0 true) (hB : Below w0.heap.size w0 w) (hp : ¬ p < s.size) :
    Calls Try.prog 23 #[.pointer (some ⟨g, 0, none⟩)] w fun e w' => e = .returned (.int .i64 0) ∧ IsS66 w0 w' g s p 0 true ∧ Below w0.heap.size w0 w' ∧ KeepBut w w' g none := by
  have ht : decide (p < (s.size : Int)) = false := decide_eq_false hp
  have hc0 := cellS66_0 hI.1
  have hc1 := cellS66_1 hI.1
  have HI := Aside0.mk hI
  have HB := Aside0.mk hB
  clear hI hB hp
  go_enter Try.func23, Try.ntmps23
  go_wp2
  go_quiet ((go_at_call 33; exact Calls.quiet_of_same (scan_Scan_End.err1 g s p 0 w0 _ HI.out)))
  go_wp2_with (go_at_call 33; refine (scan_Scan_Err.calls g s p 0 true 0 s p 0 true w0 _ (IsS66.drewN HI.out _) (pw_below_drewN HB.out _) rfl).mono ?_; rintro e w2 ⟨rfl, hi2, hb2, hk2⟩)
  go_ret
  exact ⟨rfl, hi2, hb2, KeepBut.trans (keep_drewN (KeepBut.refl w g none) _) hk2 (.inl rfl)⟩

theorem scan_Scan_End.calls (g : Nat) (s0_0 : ByteArray) (s0_1 : Int) (s0_2 : Int) (s0_3 : Bool) (r1 : Int) (r2 : ByteArray) (r3 : Int) (r4 : Int) (r5 : Bool) (w0 w : World) (hI : IsS66 w0 w g s0_0 s0_1 s0_2 s0_3) (hB : Below w0.heap.size w0 w) (h : scan_Scan_End.f s0_0 s0_1 s0_2 s0_3 = some (r1, r2, r3, r4, r5)) :
    Calls Try.prog 23 #[.pointer (some ⟨g, 0, none⟩)] w fun e w' => e = .returned (.int .i64 r1) ∧ IsS66 w0 w' g r2 r3 r4 r5 ∧ Below w0.heap.size w0 w' ∧ KeepBut w w' g none := by
  unfold scan_Scan_End.f at h
  cases s0_3 with
  | false =>
    rw [if_neg (by simp)] at h
    simp only [Option.some.injEq, Prod.mk.injEq] at h
    obtain ⟨rfl, rfl, rfl, rfl, rfl⟩ := h
    exact scan_Scan_End.none_ g _ _ _ w0 w hI hB
  | true =>
    rw [if_pos rfl] at h
    by_cases h0 : s0_2 = 0
    · subst h0
      by_cases hp : s0_1 < s0_0.size
      · rw [if_pos ⟨rfl, hp⟩] at h
        simp only [Option.some.injEq, Prod.mk.injEq] at h
        obtain ⟨rfl, rfl, rfl, rfl, rfl⟩ := h
        exact scan_Scan_End.more g _ _ w0 w hI hB hp
      · rw [if_neg (fun z => hp z.2)] at h
        simp only [Option.some.injEq, Prod.mk.injEq] at h
        obtain ⟨rfl, rfl, rfl, rfl, rfl⟩ := h
        exact scan_Scan_End.done_ g _ _ w0 w hI hB hp
    · rw [if_neg (fun z => h0 z.1)] at h
      simp only [Option.some.injEq, Prod.mk.injEq] at h
      obtain ⟨rfl, rfl, rfl, rfl, rfl⟩ := h
      exact scan_Scan_End.off g _ _ _ w0 w hI hB h0
theorem scan_Scan_End.eq (s : ByteArray) (p er : Int) : scan_Scan_End.f s p er true = some (M.xend s p er, s, p, M.xend s p er, true) := by
  unfold scan_Scan_End.f M.xend
  rw [if_pos rfl]
  by_cases hc : er = 0 ∧ p < s.size
  · simp only [if_pos hc]
  · simp only [if_neg hc]

/-! ### chunk_Take_p: function 15 -/
mutual
def chunk_Take_p.j0 : Nat → ByteArray → Int → Int → Bool → Int → Option (Int × (List (S29)) × List Int × Int)
  | 0, _, _, _, _, _ => none
  | k + 1, zaa, zab, zac, zad, zae => (scan_Scan_Num.f zaa zab zac zad 8).bind fun bt183 => (chunk_Take_p.l0 k bt183.1 0 bt183.2.1 bt183.2.2.1 bt183.2.2.2.1 bt183.2.2.2.2 zae ([] : List (S29)) ([] : List Int))
def chunk_Take_p.l0 : Nat → Int → Int → ByteArray → Int → Int → Bool → Int → List (S29) → List Int → Option (Int × (List (S29)) × List Int × Int)
  | 0, _, _, _, _, _, _, _, _, _ => none
  | k + 1, x24, x25, zaa, zab, zac, zad, zae, zaf, zag => if x25 < x24 then ((scan_Scan_Text.f zaa zab zac zad 64).bind fun bt188 => (if zae > 0 then ((scan_Scan_Fix.f bt188.2.1 bt188.2.2.1 bt188.2.2.2.1 bt188.2.2.2.2 32).bind fun bt194 => ((scan_Scan_Num.f bt194.2.1 bt194.2.2.1 bt194.2.2.2.1 bt194.2.2.2.2 2147483648).bind fun bt199 => (if zag.length < 17592186044416 then (if zaf.length < 4398046511104 then (chunk_Take_p.l0 k x24 (wrap64 (x25 + 1)) bt199.2.1 bt199.2.2.1 bt199.2.2.2.1 bt199.2.2.2.2 zae (zaf ++ [(⟨bt188.1, bt194.1⟩ : S29)]) (zag ++ [bt199.1])) else (none)) else (none)))) else ((scan_Scan_Text.f bt188.2.1 bt188.2.2.1 bt188.2.2.2.1 bt188.2.2.2.2 2048).bind fun bt210 => (if zaf.length < 4398046511104 then (chunk_Take_p.l0 k x24 (wrap64 (x25 + 1)) bt210.2.1 bt210.2.2.1 bt210.2.2.2.1 bt210.2.2.2.2 zae (zaf ++ [(⟨bt188.1, bt210.1⟩ : S29)]) zag) else (none))))) else ((scan_Scan_End.f zaa zab zac zad).bind fun bt218 => (if bt218.1 = 0 then ((chunk_Check.f zae zaf zag).bind fun t223 => (if t223 = 0 then (some (zae, zaf, zag, 0)) else (some (0, ([] : List (S29)), ([] : List Int), 3)))) else (some (0, ([] : List (S29)), ([] : List Int), 3))))
end
def chunk_Take_p.f (k : Nat) (a0 : ByteArray) : Option (Int × (List (S29)) × List Int × Int) := (scan_New.f a0).bind fun bt167 => ((scan_Scan_Byte.f bt167.1 bt167.2.1 bt167.2.2.1 bt167.2.2.2).bind fun bt173 => (if bt173.1 = 76 then (chunk_Take_p.j0 k bt173.2.1 bt173.2.2.1 bt173.2.2.2.1 bt173.2.2.2.2 0) else (if bt173.1 = 73 then ((scan_Scan_Num.f bt173.2.1 bt173.2.2.1 bt173.2.2.2.1 bt173.2.2.2.2 40).bind fun bt178 => (if bt178.1 = 0 then (some (0, ([] : List (S29)), ([] : List Int), 3)) else (chunk_Take_p.j0 k bt178.2.1 bt178.2.2.1 bt178.2.2.2.1 bt178.2.2.2.2 bt178.1))) else (some (0, ([] : List (S29)), ([] : List Int), 3)))))
theorem chunk_Take_p.mono_l : ∀ k, (∀ y0 y1 y2 y3 y4, LeO (chunk_Take_p.j0 k y0 y1 y2 y3 y4) (chunk_Take_p.j0 (k + 1) y0 y1 y2 y3 y4)) ∧ (∀ y0 y1 y2 y3 y4 y5 y6 y7 y8, LeO (chunk_Take_p.l0 k y0 y1 y2 y3 y4 y5 y6 y7 y8) (chunk_Take_p.l0 (k + 1) y0 y1 y2 y3 y4 y5 y6 y7 y8))
  | 0 => ⟨fun _ _ _ _ _ r h => by simp [chunk_Take_p.j0] at h, fun _ _ _ _ _ _ _ _ _ r h => by simp [chunk_Take_p.l0] at h⟩
  | k + 1 => by
    obtain ⟨ih0, ih1⟩ := chunk_Take_p.mono_l k
    refine ⟨?_, ?_⟩
    · intro y0 y1 y2 y3 y4
      unfold chunk_Take_p.j0
      repeat' first
      | (with_reducible exact ih0 _ _ _ _ _)
      | (with_reducible exact ih1 _ _ _ _ _ _ _ _ _)
      | (with_reducible exact LeO.refl _)
      | (with_reducible exact LeO.none _)
      | (with_reducible refine LeO.ite ?_ ?_)
      | (with_reducible refine LeO.bind ?_ (fun _ => ?_))
      | exact ih0 _ _ _ _ _
      | exact ih1 _ _ _ _ _ _ _ _ _
      | exact LeO.none _
      | refine LeO.ite ?_ ?_
      | refine LeO.bind ?_ (fun _ => ?_)
    · intro y0 y1 y2 y3 y4 y5 y6 y7 y8
      unfold chunk_Take_p.l0
      repeat' first
      | (with_reducible exact ih0 _ _ _ _ _)
      | (with_reducible exact ih1 _ _ _ _ _ _ _ _ _)
      | (with_reducible exact LeO.refl _)
      | (with_reducible exact LeO.none _)
      | (with_reducible refine LeO.ite ?_ ?_)
      | (with_reducible refine LeO.bind ?_ (fun _ => ?_))
      | exact ih0 _ _ _ _ _
      | exact ih1 _ _ _ _ _ _ _ _ _
      | exact LeO.none _
      | refine LeO.ite ?_ ?_
      | refine LeO.bind ?_ (fun _ => ?_)
theorem chunk_Take_p.mono : ∀ a0 k, LeO (chunk_Take_p.f k a0) (chunk_Take_p.f (k + 1) a0) := by
  intro a0 k
  obtain ⟨ih0, ih1⟩ := chunk_Take_p.mono_l k
  unfold chunk_Take_p.f
  repeat' first
      | (with_reducible exact ih0 _ _ _ _ _)
      | (with_reducible exact ih1 _ _ _ _ _ _ _ _ _)
      | (with_reducible exact LeO.refl _)
      | (with_reducible exact LeO.none _)
      | (with_reducible refine LeO.ite ?_ ?_)
      | (with_reducible refine LeO.bind ?_ (fun _ => ?_))
      | exact ih0 _ _ _ _ _
      | exact ih1 _ _ _ _ _ _ _ _ _
      | exact LeO.none _
      | refine LeO.ite ?_ ?_
      | refine LeO.bind ?_ (fun _ => ?_)
def chunk_Take_p.T15 : Bool × List (List Nat × List Nat) := (true, [([], []), ([0], [0]), ([], []), ([2], [2]), ([3], [3]), ([1, 4, 3], [1, 4]), ([0, 1, 2, 3, 4, 5], []), ([6, 5, 5, 0, 1, 2, 3, 4, 5], [5, 6])])
def chunk_Take_p.B15 : List Nat := [0, 1, 0, 4, 12, 31, 63, 127]
theorem chunk_Take_p.tab15 : rtab .any (opsOf Try.f15 15) = chunk_Take_p.T15 := by kernel_rfl
theorem chunk_Take_p.bits15 : waitsOk chunk_Take_p.T15.2 chunk_Take_p.B15 = true := by kernel_rfl
set_option maxHeartbeats 8000000 in
set_option maxRecDepth 100000 in
theorem chunk_Take_p.calls (k : Nat) (a0 : ByteArray) (r1 : Int) (r2 : List (S29)) (r3 : List Int) (r4 : Int) (w : World) (h : chunk_Take_p.f k a0 = some (r1, r2, r3, r4)) :
    Calls Try.prog 15 #[.string a0] w fun e w' => ∃ v1_ v2_ : Value, e = .returned (.tuple #[.agg #[.int .i64 r1, v1_, v2_], .int .i64 r4]) ∧ Kd.R k29 29 w' w.heap.size (fun _ => True) v1_ r2 ∧ Kd.R (Kd.int .i64) 3 w' w.heap.size (fun _ => True) v2_ r3 ∧ Below w.heap.size w w' := by
  have hu25 := Try.underlying25
  have hu29 := Try.underlying29
  have HB := Aside0.mk (Below.refl w.heap.size w)
  have H : ((scan_New.f a0).bind fun bt167 => ((scan_Scan_Byte.f bt167.1 bt167.2.1 bt167.2.2.1 bt167.2.2.2).bind fun bt173 => (if bt173.1 = 76 then (chunk_Take_p.j0 k bt173.2.1 bt173.2.2.1 bt173.2.2.2.1 bt173.2.2.2.2 0) else (if bt173.1 = 73 then ((scan_Scan_Num.f bt173.2.1 bt173.2.2.1 bt173.2.2.2.1 bt173.2.2.2.2 40).bind fun bt178 => (if bt178.1 = 0 then (some (0, ([] : List (S29)), ([] : List Int), 3)) else (chunk_Take_p.j0 k bt178.2.1 bt178.2.2.1 bt178.2.2.2.1 bt178.2.2.2.2 bt178.1))) else (some (0, ([] : List (S29)), ([] : List Int), 3)))))) = some (r1, r2, r3, r4) := h
  clear h
  replace H := Option.bind_eq_some_iff.mp H
  obtain ⟨⟨t167, t168, t169, t170⟩, A20, H⟩ := H
  replace H : ((scan_Scan_Byte.f t167 t168 t169 t170).bind fun bt173 => (if bt173.1 = 76 then (chunk_Take_p.j0 k bt173.2.1 bt173.2.2.1 bt173.2.2.2.1 bt173.2.2.2.2 0) else (if bt173.1 = 73 then ((scan_Scan_Num.f bt173.2.1 bt173.2.2.1 bt173.2.2.2.1 bt173.2.2.2.2 40).bind fun bt178 => (if bt178.1 = 0 then (some (0, ([] : List (S29)), ([] : List Int), 3)) else (chunk_Take_p.j0 k bt178.2.1 bt178.2.2.1 bt178.2.2.2.1 bt178.2.2.2.2 bt178.1))) else (some (0, ([] : List (S29)), ([] : List Int), 3))))) = some (r1, r2, r3, r4) := H
  have A2 := Aside0.mk A20
  clear A20
  replace H := Option.bind_eq_some_iff.mp H
  obtain ⟨⟨t173, t174, t175, t176, t177⟩, A30, H⟩ := H
  replace H : (if t173 = 76 then (chunk_Take_p.j0 k t174 t175 t176 t177 0) else (if t173 = 73 then ((scan_Scan_Num.f t174 t175 t176 t177 40).bind fun bt178 => (if bt178.1 = 0 then (some (0, ([] : List (S29)), ([] : List Int), 3)) else (chunk_Take_p.j0 k bt178.2.1 bt178.2.2.1 bt178.2.2.2.1 bt178.2.2.2.2 bt178.1))) else (some (0, ([] : List (S29)), ([] : List Int), 3)))) = some (r1, r2, r3, r4) := H
  have A3 := Aside0.mk A30
  clear A30
  have HC4 := Aside0.mk H
  clear H
  go_enter Try.func15, Try.ntmps15
  go_upto_block 0 with (first | ((with_reducible refine gate_dst (N := 2) rfl ?_); refine box_event ?hg (N := 2) ?hd (cs := #[.int .i64 0, .slice none 0 0, .slice none 0 0]) (t := 25) ?hr ?_; (case hd => rfl); (case hg => rfl); (case hr => first | (go_simp; done) | (go_simp; rfl)); intro zah hg w5 hbox hb; have n0_ := M.upS HB hb; have n1_ := Aside0.mk (hbox); have n2_ := M.upG HB hg; have n3_ := M.upG HB hg; clear HB; have HB := n0_; have zai := n1_; have zaj := n2_; have zak := n3_; clear n0_ n1_ n2_ n3_; clear hb hbox hg) | ((with_reducible refine gate_callee (f := 18) rfl ?_); refine M.goes (some 8) Try.func18 #[.string a0] rfl ?_; (with_reducible refine (scan_New.calls a0 t167 t168 t169 t170 w _ ?side1 A2.out).mono ?_); (case side1 => repeat (first | (with_reducible first | exact HB.out | apply below_alloc | apply pw_below_drewN | apply below_drew1 | refine below_set ?_ zak.out) | exact HB.out)); rintro e w6 ⟨g171, rfl, hi, hb, hb2⟩; refine ⟨_, rfl, ?_⟩; have n0_ := M.bkB zai hb2; have n1_ := Aside0.mk (hb); have n2_ := Aside0.mk (hi); have n3_ := Aside0.mk (IsS66.ne_blk hi (blk_below (g := zah) (o := .cells #[.int .i64 0, .slice none 0 0, .slice none 0 0] 25 (0, 0)) (M.bk zai) hb2) (by decide)); have n4_ := Aside0.mk (Ne.symm (IsS66.ne_blk hi (blk_below (g := zah) (o := .cells #[.int .i64 0, .slice none 0 0, .slice none 0 0] 25 (0, 0)) (M.bk zai) hb2) (by decide))); clear zai HB; have zai := n0_; have HB := n1_; have HI171 := n2_; have zal := n3_; have zam := n4_; clear n0_ n1_ n2_ n3_ n4_; (try clear hb); (try clear hb2); (try clear hi)) | ((with_reducible refine gate_dst (N := 5) rfl ?_); refine box_event ?hg (N := 5) ?hd (cs := #[.int .i64 0, .slice none 0 0, .slice none 0 0]) (t := 25) ?hr ?_; (case hd => rfl); (case hg => rfl); (case hr => first | (go_simp; done) | (go_simp; rfl)); intro zan hg w7 hbox hb; have n0_ := M.bkB zai hb; have n1_ := Aside0.mk (IsS66.below (by repeat (first | (with_reducible first | exact HI171.out | apply IsS66.alloc | apply IsS66.drewN | apply IsS66.drew | apply IsS66.set_0 | apply IsS66.set_1 | apply IsS66.set_2 | apply IsS66.set_3 | refine IsS66.far ?_ zal.out _) | exact HI171.out)) hb); have n2_ := Aside0.mk (below_step (by repeat (first | (with_reducible first | exact HB.out | apply below_alloc | apply pw_below_drewN | apply below_drew1 | refine below_set ?_ (IsS66.ge HI171.out) | refine below_set ?_ zak.out) | exact HB.out)) hb); have n3_ := Aside0.mk (hbox); have n4_ := Aside0.mk ((by rw [hg]; exact (below_size (by repeat (first | (with_reducible first | exact HB.out | apply below_alloc | apply pw_below_drewN | apply below_drew1 | refine below_set ?_ (IsS66.ge HI171.out) | refine below_set ?_ zak.out) | exact HB.out))) : w.heap.size ≤ zan)); have n5_ := Aside0.mk ((by rw [hg]; exact (below_size (by repeat (first | (with_reducible first | exact HB.out | apply below_alloc | apply pw_below_drewN | apply below_drew1 | refine below_set ?_ (IsS66.ge HI171.out) | refine below_set ?_ zak.out) | exact HB.out))) : w.heap.size ≤ zan)); have n6_ := M.bkL zai hg; have n7_ := M.bkG zai hg; have n8_ := Aside0.mk ((by rw [hg]; exact Nat.ne_of_lt (IsS66.lt (show IsS66 w _ g171 t167 t168 t169 t170 from by repeat (first | (with_reducible first | exact HI171.out | apply IsS66.alloc | apply IsS66.drewN | apply IsS66.drew | apply IsS66.set_0 | apply IsS66.set_1 | apply IsS66.set_2 | apply IsS66.set_3 | refine IsS66.far ?_ zal.out _) | exact HI171.out))) : g171 ≠ zan)); have n9_ := Aside0.mk ((by rw [hg]; exact Nat.ne_of_gt (IsS66.lt (show IsS66 w _ g171 t167 t168 t169 t170 from by repeat (first | (with_reducible first | exact HI171.out | apply IsS66.alloc | apply IsS66.drewN | apply IsS66.drew | apply IsS66.set_0 | apply IsS66.set_1 | apply IsS66.set_2 | apply IsS66.set_3 | refine IsS66.far ?_ zal.out _) | exact HI171.out))) : zan ≠ g171)); clear zai HI171 HB; have zai := n0_; have HI171 := n1_; have HB := n2_; have zao := n3_; have zap := n4_; have zaq := n5_; have zar := n6_; have zas := n7_; have zat := n8_; have zau := n9_; clear n0_ n1_ n2_ n3_ n4_ n5_ n6_ n7_ n8_ n9_; clear hb hbox hg) | ((with_reducible refine gate_callee (f := 19) rfl ?_); refine M.goes (some 10) Try.func19 #[.pointer (some ⟨g171, 0, none⟩)] rfl ?_; (with_reducible refine (scan_Scan_Byte.calls g171 t167 t168 t169 t170 t173 t174 t175 t176 t177 w _ ?side1 ?side2 A3.out).mono ?_); (case side1 => repeat (first | (with_reducible first | exact HI171.out | apply IsS66.alloc | apply IsS66.drewN | apply IsS66.drew | apply IsS66.set_0 | apply IsS66.set_1 | apply IsS66.set_2 | apply IsS66.set_3 | refine IsS66.far ?_ zal.out _ | refine IsS66.far ?_ zat.out _) | exact HI171.out)); (case side2 => repeat (first | (with_reducible first | exact HB.out | apply below_alloc | apply pw_below_drewN | apply below_drew1 | refine below_set ?_ (IsS66.ge HI171.out) | refine below_set ?_ zak.out | refine below_set ?_ zaq.out) | exact HB.out)); rintro e w8 ⟨rfl, hi, hb, hk⟩; refine ⟨_, rfl, ?_⟩; have n0_ := Aside0.mk (KeepBut.blk hk (g' := zah) (o := .cells #[.int .i64 0, .slice none 0 0, .slice none 0 0] 25 (0, 0)) (M.bk zai) zam.out (by simp)); have n1_ := Aside0.mk (KeepBut.blk hk (g' := zan) (o := .cells #[.int .i64 0, .slice none 0 0, .slice none 0 0] 25 (0, 0)) (M.bk zao) zau.out (by simp)); have n2_ := Aside0.mk (hb); have n3_ := Aside0.mk (hi); clear zai zao HB HI171; have zai := n0_; have zao := n1_; have HB := n2_; have HI171 := n3_; clear n0_ n1_ n2_ n3_; (try clear hb); (try clear hk); (try clear hi)))
  (try simp only [Act.put, List.setIfInBounds_toArray, List.set_cons_zero, List.set_cons_succ])
  go_cut [] (fun wc => ∃ (kq : Nat) (zav : Int) (zaw : ByteArray) (zax : Int) (zay : Int) (zaz : Bool) (zaA : Int), Aside0 (chunk_Take_p.j0 kq zaw zax zay zaz zaA = some (r1, r2, r3, r4)) ∧ Aside0 (kq ≤ k) ∧ Aside0 (wc.heap[zah]? = some (.cells #[.int .i64 zav, (.slice none 0 0), (.slice none 0 0)] 25 (0, 0))) ∧ Aside0 (wc.heap[zan]? = some (.cells #[.int .i64 zaA, (.slice none 0 0), (.slice none 0 0)] 25 (0, 0))) ∧ Aside0 (IsS66 w wc g171 zaw zax zay zaz) ∧ Aside0 (Below w.heap.size w wc))
  case first =>
    have H := HC4.out
    clear HC4
    by_cases c9 : t173 = 76
    · rw [if_pos c9] at H
      have c9b0 : (t173 == 76) = true := beq_iff_eq.mpr c9
      have c9b1 : (t173 != 76) = false := bne_eq_false_iff_eq.mpr c9
      clear c9
      (first | rw [c9b0] | (simp only [i64_w, i32_w]; rw [c9b0]) | skip)
      have H' := Aside0.mk H
      clear H
      go_wp2
      go_meet
      case rel => exact ⟨_, (0), (t174), (t175), (t176), (t177), (0), H', ⟨by first | omega | exact Nat.le_refl _⟩, ⟨by (with_reducible repeat (first | refine blk_drewN ?_ _ | refine blk_drew ?_ | refine blk_alloc ?_ _)); exact zai.out⟩, ⟨by (with_reducible repeat (first | refine blk_drewN ?_ _ | refine blk_drew ?_ | refine blk_alloc ?_ _)); exact zao.out⟩, ⟨by repeat (first | (with_reducible first | exact HI171.out | apply IsS66.alloc | apply IsS66.drewN | apply IsS66.drew | apply IsS66.set_0 | apply IsS66.set_1 | apply IsS66.set_2 | apply IsS66.set_3 | refine IsS66.far ?_ zal.out _ | refine IsS66.far ?_ zat.out _) | exact HI171.out)⟩, ⟨by repeat (first | (with_reducible first | exact HB.out | apply below_alloc | apply pw_below_drewN | apply below_drew1 | refine below_set ?_ (IsS66.ge HI171.out) | refine below_set ?_ zak.out | refine below_set ?_ zaq.out) | exact HB.out)⟩⟩
    · rw [if_neg c9] at H
      have c9b0 : (t173 == 76) = false := beq_eq_false_iff_ne.mpr c9
      have c9b1 : (t173 != 76) = true := bne_iff_ne.mpr c9
      (first | rw [c9b0] | (simp only [i64_w, i32_w]; rw [c9b0]) | skip)
      by_cases c10 : t173 = 73
      · rw [if_pos c10] at H
        have c10b0 : (t173 == 73) = true := beq_iff_eq.mpr c10
        have c10b1 : (t173 != 73) = false := bne_eq_false_iff_eq.mpr c10
        clear c10
        replace H := Option.bind_eq_some_iff.mp H
        obtain ⟨⟨t178, t179, t180, t181, t182⟩, A110, H⟩ := H
        replace H : (if t178 = 0 then (some (0, ([] : List (S29)), ([] : List Int), 3)) else (chunk_Take_p.j0 k t179 t180 t181 t182 t178)) = some (r1, r2, r3, r4) := H
        have A11 := Aside0.mk A110
        clear A110
        by_cases c12 : t178 = 0
        · rw [if_pos c12] at H
          have c12b0 : (t178 == 0) = true := beq_iff_eq.mpr c12
          have c12b1 : (t178 != 0) = false := bne_eq_false_iff_eq.mpr c12
          clear c12
          simp only [Option.some.injEq, Prod.mk.injEq] at H
          obtain ⟨rfl, rfl, rfl, rfl⟩ := H
          go_wp2_with (first | ((with_reducible refine gate_callee (f := 20) rfl ?_); refine M.goes (some 17) Try.func20 #[.pointer (some ⟨g171, 0, none⟩), .int .i64 40] rfl ?_; (with_reducible refine (scan_Scan_Num.calls g171 t174 t175 t176 t177 40 t178 t179 t180 t181 t182 w _ ?side1 ?side2 A11.out).mono ?_); (case side1 => repeat (first | (with_reducible first | exact HI171.out | apply IsS66.alloc | apply IsS66.drewN | apply IsS66.drew | apply IsS66.set_0 | apply IsS66.set_1 | apply IsS66.set_2 | apply IsS66.set_3 | refine IsS66.far ?_ zal.out _ | refine IsS66.far ?_ zat.out _) | exact HI171.out)); (case side2 => repeat (first | (with_reducible first | exact HB.out | apply below_alloc | apply pw_below_drewN | apply below_drew1 | refine below_set ?_ (IsS66.ge HI171.out) | refine below_set ?_ zak.out | refine below_set ?_ zaq.out) | exact HB.out)); rintro e w13 ⟨rfl, hi, hb, hk⟩; refine ⟨_, rfl, ?_⟩; have n0_ := Aside0.mk (KeepBut.blk hk (g' := zah) (o := .cells #[.int .i64 0, .slice none 0 0, .slice none 0 0] 25 (0, 0)) (M.bk zai) zam.out (by simp)); have n1_ := Aside0.mk (KeepBut.blk hk (g' := zan) (o := .cells #[.int .i64 0, .slice none 0 0, .slice none 0 0] 25 (0, 0)) (M.bk zao) zau.out (by simp)); have n2_ := Aside0.mk (hb); have n3_ := Aside0.mk (hi); clear zai zao HB HI171; have zai := n0_; have zao := n1_; have HB := n2_; have HI171 := n3_; clear n0_ n1_ n2_ n3_; (try clear hb); (try clear hk); (try clear hi); have zaB := zas.out; have zaC := zar.out; have zaD := zau.out; have zaE := zat.out; obtain ⟨zaF, zaG, zaH⟩ := M.bc3 (w := w13) (a := .int .i64 0) (b := .slice none 0 0) (c := .slice none 0 0) zao.out; obtain ⟨zaI, zaJ, zaK⟩ := M.bf3 zao; have zaL := zam.out; have zaM := zal.out; obtain ⟨zaN, zaO, zaP⟩ := M.bc3 (w := w13) (a := .int .i64 0) (b := .slice none 0 0) (c := .slice none 0 0) zai.out; obtain ⟨zaQ, zaR, zaS⟩ := M.bf3 zai))
          refine bodyPost_ret (results_ct rfl _ _ zah 25 #[.int .i64 0, .slice none 0 0, .slice none 0 0] (0, 0) _ rfl (by (with_reducible repeat (first | refine blk_drewN ?_ _ | refine blk_drew ?_ | refine blk_alloc ?_ _)); refine blk_put (cs := #[.int .i64 0, .slice none 0 0, .slice none 0 0]) ?_ 2 _ rfl; (with_reducible repeat (first | refine blk_drewN ?_ _ | refine blk_drew ?_ | refine blk_alloc ?_ _)); refine blk_put (cs := #[.int .i64 0, .slice none 0 0, .slice none 0 0]) ?_ 1 _ rfl; (with_reducible repeat (first | refine blk_drewN ?_ _ | refine blk_drew ?_ | refine blk_alloc ?_ _)); refine blk_put (cs := #[.int .i64 0, .slice none 0 0, .slice none 0 0]) ?_ 0 _ rfl; (with_reducible repeat (first | refine blk_drewN ?_ _ | refine blk_drew ?_ | refine blk_alloc ?_ _)); refine blk_far ?_ zar.out _; (with_reducible repeat (first | refine blk_drewN ?_ _ | refine blk_drew ?_ | refine blk_alloc ?_ _)); exact zai.out) Try.underlying25 rfl (by kernel_rfl)) rfl ?_
          exact ⟨_, _, by first | rfl | (simp [errW_none, errW_some] <;> rfl) | (simp [*, errW_none, errW_some] <;> rfl), by first | exact Kd.R_nil _ _ _ _ _ | exact Kd.N_nil _ _ _ _ _ | exact Kd.V_nil _ _ _ _ _ | exact Kd.Q_nil _ _ _ _ _ | exact Kd.S_nil _ _ _ _ _, by first | exact Kd.R_nil _ _ _ _ _ | exact Kd.N_nil _ _ _ _ _ | exact Kd.V_nil _ _ _ _ _ | exact Kd.Q_nil _ _ _ _ _ | exact Kd.S_nil _ _ _ _ _, by repeat (first | (with_reducible first | exact HB.out | apply below_alloc | apply pw_below_drewN | apply below_drew1 | refine below_set ?_ (IsS66.ge HI171.out) | refine below_set ?_ zak.out | refine below_set ?_ zaq.out) | exact HB.out)⟩
        · rw [if_neg c12] at H
          have c12b0 : (t178 == 0) = false := beq_eq_false_iff_ne.mpr c12
          have c12b1 : (t178 != 0) = true := bne_iff_ne.mpr c12
          have H' := Aside0.mk H
          clear H
          go_wp2_with (first | ((with_reducible refine gate_callee (f := 20) rfl ?_); refine M.goes (some 17) Try.func20 #[.pointer (some ⟨g171, 0, none⟩), .int .i64 40] rfl ?_; (with_reducible refine (scan_Scan_Num.calls g171 t174 t175 t176 t177 40 t178 t179 t180 t181 t182 w _ ?side1 ?side2 A11.out).mono ?_); (case side1 => repeat (first | (with_reducible first | exact HI171.out | apply IsS66.alloc | apply IsS66.drewN | apply IsS66.drew | apply IsS66.set_0 | apply IsS66.set_1 | apply IsS66.set_2 | apply IsS66.set_3 | refine IsS66.far ?_ zal.out _ | refine IsS66.far ?_ zat.out _) | exact HI171.out)); (case side2 => repeat (first | (with_reducible first | exact HB.out | apply below_alloc | apply pw_below_drewN | apply below_drew1 | refine below_set ?_ (IsS66.ge HI171.out) | refine below_set ?_ zak.out | refine below_set ?_ zaq.out) | exact HB.out)); rintro e w19 ⟨rfl, hi, hb, hk⟩; refine ⟨_, rfl, ?_⟩; have n0_ := Aside0.mk (KeepBut.blk hk (g' := zah) (o := .cells #[.int .i64 0, .slice none 0 0, .slice none 0 0] 25 (0, 0)) (M.bk zai) zam.out (by simp)); have n1_ := Aside0.mk (KeepBut.blk hk (g' := zan) (o := .cells #[.int .i64 0, .slice none 0 0, .slice none 0 0] 25 (0, 0)) (M.bk zao) zau.out (by simp)); have n2_ := Aside0.mk (hb); have n3_ := Aside0.mk (hi); clear zai zao HB HI171; have zai := n0_; have zao := n1_; have HB := n2_; have HI171 := n3_; clear n0_ n1_ n2_ n3_; (try clear hb); (try clear hk); (try clear hi); have zaT := zas.out; have zaU := zar.out; have zaV := zau.out; have zaW := zat.out; obtain ⟨zaX, zaY, zaZ⟩ := M.bc3 (w := w19) (a := .int .i64 0) (b := .slice none 0 0) (c := .slice none 0 0) zao.out; obtain ⟨za0, za1, za2⟩ := M.bf3 zao))
          go_meet
          case rel => exact ⟨_, (0), (t179), (t180), (t181), (t182), (t178), H', ⟨by first | omega | exact Nat.le_refl _⟩, ⟨by (with_reducible repeat (first | refine blk_drewN ?_ _ | refine blk_drew ?_ | refine blk_alloc ?_ _)); refine blk_far ?_ zar.out _; (with_reducible repeat (first | refine blk_drewN ?_ _ | refine blk_drew ?_ | refine blk_alloc ?_ _)); exact zai.out⟩, ⟨by (with_reducible repeat (first | refine blk_drewN ?_ _ | refine blk_drew ?_ | refine blk_alloc ?_ _)); refine blk_put (cs := #[.int .i64 0, .slice none 0 0, .slice none 0 0]) ?_ 0 _ rfl; (with_reducible repeat (first | refine blk_drewN ?_ _ | refine blk_drew ?_ | refine blk_alloc ?_ _)); exact zao.out⟩, ⟨by repeat (first | (with_reducible first | exact HI171.out | apply IsS66.alloc | apply IsS66.drewN | apply IsS66.drew | apply IsS66.set_0 | apply IsS66.set_1 | apply IsS66.set_2 | apply IsS66.set_3 | refine IsS66.far ?_ zal.out _ | refine IsS66.far ?_ zat.out _) | exact HI171.out)⟩, ⟨by repeat (first | (with_reducible first | exact HB.out | apply below_alloc | apply pw_below_drewN | apply below_drew1 | refine below_set ?_ (IsS66.ge HI171.out) | refine below_set ?_ zak.out | refine below_set ?_ zaq.out) | exact HB.out)⟩⟩
      · rw [if_neg c10] at H
        have c10b0 : (t173 == 73) = false := beq_eq_false_iff_ne.mpr c10
        have c10b1 : (t173 != 73) = true := bne_iff_ne.mpr c10
        simp only [Option.some.injEq, Prod.mk.injEq] at H
        obtain ⟨rfl, rfl, rfl, rfl⟩ := H
        have za3 := zar.out
        have za4 := zas.out
        have za5 := zam.out
        have za6 := zal.out
        obtain ⟨za7, za8, za9⟩ := M.bc3 (w := w8) (a := .int .i64 0) (b := .slice none 0 0) (c := .slice none 0 0) zai.out
        obtain ⟨zba, zbb, zbc⟩ := M.bf3 zai
        go_wp2
        refine bodyPost_ret (results_ct rfl _ _ zah 25 #[.int .i64 0, .slice none 0 0, .slice none 0 0] (0, 0) _ rfl (by (with_reducible repeat (first | refine blk_drewN ?_ _ | refine blk_drew ?_ | refine blk_alloc ?_ _)); refine blk_put (cs := #[.int .i64 0, .slice none 0 0, .slice none 0 0]) ?_ 2 _ rfl; (with_reducible repeat (first | refine blk_drewN ?_ _ | refine blk_drew ?_ | refine blk_alloc ?_ _)); refine blk_put (cs := #[.int .i64 0, .slice none 0 0, .slice none 0 0]) ?_ 1 _ rfl; (with_reducible repeat (first | refine blk_drewN ?_ _ | refine blk_drew ?_ | refine blk_alloc ?_ _)); refine blk_put (cs := #[.int .i64 0, .slice none 0 0, .slice none 0 0]) ?_ 0 _ rfl; (with_reducible repeat (first | refine blk_drewN ?_ _ | refine blk_drew ?_ | refine blk_alloc ?_ _)); exact zai.out) Try.underlying25 rfl (by kernel_rfl)) rfl ?_
        exact ⟨_, _, by first | rfl | (simp [errW_none, errW_some] <;> rfl) | (simp [*, errW_none, errW_some] <;> rfl), by first | exact Kd.R_nil _ _ _ _ _ | exact Kd.N_nil _ _ _ _ _ | exact Kd.V_nil _ _ _ _ _ | exact Kd.Q_nil _ _ _ _ _ | exact Kd.S_nil _ _ _ _ _, by first | exact Kd.R_nil _ _ _ _ _ | exact Kd.N_nil _ _ _ _ _ | exact Kd.V_nil _ _ _ _ _ | exact Kd.Q_nil _ _ _ _ _ | exact Kd.S_nil _ _ _ _ _, by repeat (first | (with_reducible first | exact HB.out | apply below_alloc | apply pw_below_drewN | apply below_drew1 | refine below_set ?_ (IsS66.ge HI171.out) | refine below_set ?_ zak.out | refine below_set ?_ zaq.out) | exact HB.out)⟩
  case rest =>
    clear HC4
    try clear c1
    try clear c2
    try clear p2
    try clear c9
    try clear c9b0
    try clear c9b1
    try clear c10
    try clear c10b0
    try clear c10b1
    try clear c12
    try clear c12b0
    try clear c12b1
    try clear c14
    try clear c15
    try clear c17
    try clear c18
    try clear c19
    try clear c20
    try clear c21
    try clear c23
    try clear c24
    try clear zaF
    try clear zaG
    try clear zaH
    try clear zaN
    try clear zaO
    try clear zaP
    try clear zaX
    try clear zaY
    try clear zaZ
    try clear za7
    try clear za8
    try clear za9
    try clear zaI
    try clear zaJ
    try clear zaK
    try clear zaQ
    try clear zaR
    try clear zaS
    try clear za0
    try clear za1
    try clear za2
    try clear zba
    try clear zbb
    try clear zbc
    obtain ⟨kq, zav, zaw, zax, zay, zaz, zaA, HA, HJ3, zai, zao, HI171, HB⟩ := hcut
    cases kq with
    | zero => exact absurd HA.out (by simp [chunk_Take_p.j0])
    | succ kj3 =>
      have H := HA.out
      clear HA
      simp only [chunk_Take_p.j0] at H
      replace H := Option.bind_eq_some_iff.mp H
      obtain ⟨⟨t183, t184, t185, t186, t187⟩, A260, H⟩ := H
      replace H : (chunk_Take_p.l0 kj3 t183 0 t184 t185 t186 t187 zaA ([] : List (S29)) ([] : List Int)) = some (r1, r2, r3, r4) := H
      have A26 := Aside0.mk A260
      clear A260
      have H' := Aside0.mk H
      clear H
      go_wp2_with (first | ((with_reducible refine gate_callee (f := 20) rfl ?_); refine M.goes (some 24) Try.func20 #[.pointer (some ⟨g171, 0, none⟩), .int .i64 8] rfl ?_; (with_reducible refine (scan_Scan_Num.calls g171 zaw zax zay zaz 8 t183 t184 t185 t186 t187 w _ ?side1 ?side2 A26.out).mono ?_); (case side1 => repeat (first | (with_reducible first | exact HI171.out | apply IsS66.alloc | apply IsS66.drewN | apply IsS66.drew | apply IsS66.set_0 | apply IsS66.set_1 | apply IsS66.set_2 | apply IsS66.set_3 | refine IsS66.far ?_ zal.out _ | refine IsS66.far ?_ zat.out _) | exact HI171.out)); (case side2 => repeat (first | (with_reducible first | exact HB.out | apply below_alloc | apply pw_below_drewN | apply below_drew1 | refine below_set ?_ (IsS66.ge HI171.out) | refine below_set ?_ zak.out | refine below_set ?_ zaq.out) | exact HB.out)); rintro e w27 ⟨rfl, hi, hb, hk⟩; refine ⟨_, rfl, ?_⟩; have n0_ := Aside0.mk (KeepBut.blk hk (g' := zah) (o := .cells #[.int .i64 zav, .slice none 0 0, .slice none 0 0] 25 (0, 0)) (M.bk zai) zam.out (by simp)); have n1_ := Aside0.mk (KeepBut.blk hk (g' := zan) (o := .cells #[.int .i64 zaA, .slice none 0 0, .slice none 0 0] 25 (0, 0)) (M.bk zao) zau.out (by simp)); have n2_ := Aside0.mk (hb); have n3_ := Aside0.mk (hi); clear zai zao HB HI171; have zai := n0_; have zao := n1_; have HB := n2_; have HI171 := n3_; clear n0_ n1_ n2_ n3_; (try clear hb); (try clear hk); (try clear hi)))
      go_loopg [25] kj3 (fun kq v25 w' => ∃ (x25_2 : Int) (zbd : ByteArray) (zbe : Int) (zbf : Int) (zbg : Bool) (zbh : List (S29)) (zbi : List Int) (zbj : Value) (zbk : Value), v25 = .int .i64 x25_2 ∧ Aside0 (chunk_Take_p.l0 kq t183 x25_2 zbd zbe zbf zbg zaA zbh zbi = some (r1, r2, r3, r4)) ∧ Aside0 (kq ≤ kj3) ∧ Aside0 (Kd.R k29 29 w' w.heap.size (fun _ => True) zbj zbh) ∧ Aside0 (Kd.R (Kd.int .i64) 3 w' w.heap.size (fun _ => True) zbk zbi) ∧ Aside0 (w'.heap[zah]? = some (.cells #[.int .i64 zav, (.slice none 0 0), (.slice none 0 0)] 25 (0, 0))) ∧ Aside0 (w'.heap[zan]? = some (.cells #[.int .i64 zaA, zbj, zbk] 25 (0, 0))) ∧ Aside0 (IsS66 w w' g171 zbd zbe zbf zbg) ∧ Aside0 (Below w.heap.size w w'))
      case atStart => exact ⟨(0), (t184), (t185), (t186), (t187), (([] : List (S29))), (([] : List Int)), (.slice none 0 0), (.slice none 0 0), (by first | rfl | (simp; done) | (simp [*]; done) | (simp [M.isEmpty_bne]; done)), H', ⟨Nat.le_refl _⟩, ⟨by first | exact Kd.R_nil _ _ _ _ _ | exact Kd.N_nil _ _ _ _ _ | exact Kd.V_nil _ _ _ _ _ | exact Kd.Q_nil _ _ _ _ _ | exact Kd.S_nil _ _ _ _ _⟩, ⟨by first | exact Kd.R_nil _ _ _ _ _ | exact Kd.N_nil _ _ _ _ _ | exact Kd.V_nil _ _ _ _ _ | exact Kd.Q_nil _ _ _ _ _ | exact Kd.S_nil _ _ _ _ _⟩, ⟨by (with_reducible repeat (first | refine blk_drewN ?_ _ | refine blk_drew ?_ | refine blk_alloc ?_ _)); exact zai.out⟩, ⟨by (with_reducible repeat (first | refine blk_drewN ?_ _ | refine blk_drew ?_ | refine blk_alloc ?_ _)); exact zao.out⟩, ⟨by repeat (first | (with_reducible first | exact HI171.out | apply IsS66.alloc | apply IsS66.drewN | apply IsS66.drew | apply IsS66.set_0 | apply IsS66.set_1 | apply IsS66.set_2 | apply IsS66.set_3 | refine IsS66.far ?_ zal.out _ | refine IsS66.far ?_ zat.out _) | exact HI171.out)⟩, ⟨by repeat (first | (with_reducible first | exact HB.out | apply below_alloc | apply pw_below_drewN | apply below_drew1 | refine below_set ?_ (IsS66.ge HI171.out) | refine below_set ?_ zak.out | refine below_set ?_ zaq.out) | exact HB.out)⟩⟩
      case round =>
        clear H'
        try clear c1
        try clear c2
        try clear p2
        try clear c9
        try clear c9b0
        try clear c9b1
        try clear c10
        try clear c10b0
        try clear c10b1
        try clear c12
        try clear c12b0
        try clear c12b1
        try clear c14
        try clear c15
        try clear c17
        try clear c18
        try clear c19
        try clear c20
        try clear c21
        try clear c23
        try clear c24
        try clear zaF
        try clear zaG
        try clear zaH
        try clear zaN
        try clear zaO
        try clear zaP
        try clear zaX
        try clear zaY
        try clear zaZ
        try clear za7
        try clear za8
        try clear za9
        try clear zaI
        try clear zaJ
        try clear zaK
        try clear zaQ
        try clear zaR
        try clear zaS
        try clear za0
        try clear za1
        try clear za2
        try clear zba
        try clear zbb
        try clear zbc
        try clear p2
        obtain ⟨x25_2, zbd, zbe, zbf, zbg, zbh, zbi, zbj, zbk, rfl, HA, HK2, zbl, zbm, zai, zao, HI171, HB⟩ := hrel
        cases gk with
        | zero => exact absurd HA.out (by simp [chunk_Take_p.l0])
        | succ k2 =>
          have H := HA.out
          clear HA
          simp only [chunk_Take_p.l0] at H
          by_cases c28 : x25_2 < t183
          · rw [if_pos c28] at H
            have c28b0 : decide (x25_2 < t183) = true := decide_eq_true c28
            clear c28
            replace H := Option.bind_eq_some_iff.mp H
            obtain ⟨⟨t188, t189, t190, t191, t192⟩, A290, H⟩ := H
            replace H : (if zaA > 0 then ((scan_Scan_Fix.f t189 t190 t191 t192 32).bind fun bt194 => ((scan_Scan_Num.f bt194.2.1 bt194.2.2.1 bt194.2.2.2.1 bt194.2.2.2.2 2147483648).bind fun bt199 => (if zbi.length < 17592186044416 then (if zbh.length < 4398046511104 then (chunk_Take_p.l0 k2 t183 (wrap64 (x25_2 + 1)) bt199.2.1 bt199.2.2.1 bt199.2.2.2.1 bt199.2.2.2.2 zaA (zbh ++ [(⟨t188, bt194.1⟩ : S29)]) (zbi ++ [bt199.1])) else (none)) else (none)))) else ((scan_Scan_Text.f t189 t190 t191 t192 2048).bind fun bt210 => (if zbh.length < 4398046511104 then (chunk_Take_p.l0 k2 t183 (wrap64 (x25_2 + 1)) bt210.2.1 bt210.2.2.1 bt210.2.2.2.1 bt210.2.2.2.2 zaA (zbh ++ [(⟨t188, bt210.1⟩ : S29)]) zbi) else (none)))) = some (r1, r2, r3, r4) := H
            have A29 := Aside0.mk A290
            clear A290
            by_cases c30 : zaA > 0
            · rw [if_pos c30] at H
              have c30b0 : decide (0 < zaA) = true := decide_eq_true c30
              clear c30
              replace H := Option.bind_eq_some_iff.mp H
              obtain ⟨⟨t194, t195, t196, t197, t198⟩, A310, H⟩ := H
              replace H : ((scan_Scan_Num.f t195 t196 t197 t198 2147483648).bind fun bt199 => (if zbi.length < 17592186044416 then (if zbh.length < 4398046511104 then (chunk_Take_p.l0 k2 t183 (wrap64 (x25_2 + 1)) bt199.2.1 bt199.2.2.1 bt199.2.2.2.1 bt199.2.2.2.2 zaA (zbh ++ [(⟨t188, t194⟩ : S29)]) (zbi ++ [bt199.1])) else (none)) else (none))) = some (r1, r2, r3, r4) := H
              have A31 := Aside0.mk A310
              clear A310
              replace H := Option.bind_eq_some_iff.mp H
              obtain ⟨⟨t199, t200, t201, t202, t203⟩, A320, H⟩ := H
              replace H : (if zbi.length < 17592186044416 then (if zbh.length < 4398046511104 then (chunk_Take_p.l0 k2 t183 (wrap64 (x25_2 + 1)) t200 t201 t202 t203 zaA (zbh ++ [(⟨t188, t194⟩ : S29)]) (zbi ++ [t199])) else (none)) else (none)) = some (r1, r2, r3, r4) := H
              have A32 := Aside0.mk A320
              clear A320
              by_cases c33 : zbi.length < 17592186044416
              · rw [if_pos c33] at H
                have LMc33 := Aside0.mk c33
                clear c33
                obtain ⟨y204, hy204⟩ : ∃ y_ : List Int, y_ = (zbi ++ [t199]) := ⟨_, rfl⟩
                replace H : (if zbh.length < 4398046511104 then (chunk_Take_p.l0 k2 t183 (wrap64 (x25_2 + 1)) t200 t201 t202 t203 zaA (zbh ++ [(⟨t188, t194⟩ : S29)]) y204) else (none)) = some (r1, r2, r3, r4) := by first | (rw [hy204]; with_reducible exact H) | (have H2_ := (Option.bind_some _ _).symm.trans H; rw [hy204]; with_reducible exact H2_) | (have H2_ := (Option.bind_some _ _).symm.trans H; with_reducible exact H2_) | with_reducible exact H | (rw [hy204]; exact H) | exact H
                have Ny204 := Aside0.mk hy204
                clear hy204
                by_cases c34 : zbh.length < 4398046511104
                · rw [if_pos c34] at H
                  have LMc34 := Aside0.mk c34
                  clear c34
                  obtain ⟨y207, hy207⟩ : ∃ y_ : List (S29), y_ = (zbh ++ [(⟨t188, t194⟩ : S29)]) := ⟨_, rfl⟩
                  replace H : (chunk_Take_p.l0 k2 t183 (wrap64 (x25_2 + 1)) t200 t201 t202 t203 zaA y207 y204) = some (r1, r2, r3, r4) := by first | (rw [hy207]; with_reducible exact H) | (have H2_ := (Option.bind_some _ _).symm.trans H; rw [hy207]; with_reducible exact H2_) | (have H2_ := (Option.bind_some _ _).symm.trans H; with_reducible exact H2_) | with_reducible exact H | (rw [hy207]; exact H) | exact H
                  have Ny207 := Aside0.mk hy207
                  clear hy207
                  have H' := Aside0.mk H
                  clear H
                  try go_wp2_with (first | ((with_reducible refine gate_callee (f := 21) rfl ?_); refine M.goes (some 28) Try.func21 #[.pointer (some ⟨g171, 0, none⟩), .int .i64 64] rfl ?_; (with_reducible refine (scan_Scan_Text.calls g171 zbd zbe zbf zbg 64 t188 t189 t190 t191 t192 w _ ?side1 ?side2 A29.out).mono ?_); (case side1 => repeat (first | (with_reducible first | exact HI171.out | apply IsS66.alloc | apply IsS66.drewN | apply IsS66.drew | apply IsS66.set_0 | apply IsS66.set_1 | apply IsS66.set_2 | apply IsS66.set_3 | refine IsS66.far ?_ zal.out _ | refine IsS66.far ?_ zat.out _) | exact HI171.out)); (case side2 => repeat (first | (with_reducible first | exact HB.out | apply below_alloc | apply pw_below_drewN | apply below_drew1 | refine below_set ?_ (IsS66.ge HI171.out) | refine below_set ?_ zak.out | refine below_set ?_ zaq.out) | exact HB.out)); rintro e w35 ⟨rfl, hi, hb, hk⟩; refine ⟨_, rfl, ?_⟩; have n0_ := Aside0.mk (Kd.R_mono (Kd.R_keep (IsS66.apart (show IsS66 w _ g171 zbd zbe zbf zbg from by repeat (first | (with_reducible first | exact HI171.out | apply IsS66.alloc | apply IsS66.drewN | apply IsS66.drew | apply IsS66.set_0 | apply IsS66.set_1 | apply IsS66.set_2 | apply IsS66.set_3 | refine IsS66.far ?_ zal.out _ | refine IsS66.far ?_ zat.out _) | exact HI171.out)) (M.ro zbl) (by decide)) hk (fun _ h => h.2)) (fun _ h => h.1)); have n1_ := Aside0.mk (Kd.R_mono (Kd.R_keep (IsS66.apart (show IsS66 w _ g171 zbd zbe zbf zbg from by repeat (first | (with_reducible first | exact HI171.out | apply IsS66.alloc | apply IsS66.drewN | apply IsS66.drew | apply IsS66.set_0 | apply IsS66.set_1 | apply IsS66.set_2 | apply IsS66.set_3 | refine IsS66.far ?_ zal.out _ | refine IsS66.far ?_ zat.out _) | exact HI171.out)) (M.ro zbm) (by decide)) hk (fun _ h => h.2)) (fun _ h => h.1)); have n2_ := Aside0.mk (KeepBut.blk hk (g' := zah) (o := .cells #[.int .i64 zav, .slice none 0 0, .slice none 0 0] 25 (0, 0)) (M.bk zai) zam.out (by simp)); have n3_ := Aside0.mk (KeepBut.blk hk (g' := zan) (o := .cells #[.int .i64 zaA, zbj, zbk] 25 (0, 0)) (M.bk zao) zau.out (by simp)); have n4_ := Aside0.mk (hb); have n5_ := Aside0.mk (hi); clear zbl zbm zai zao HB HI171; have zbl := n0_; have zbm := n1_; have zai := n2_; have zao := n3_; have HB := n4_; have HI171 := n5_; clear n0_ n1_ n2_ n3_ n4_ n5_; (try clear hb); (try clear hk); (try clear hi)) | ((with_reducible refine gate_dst (N := 6) rfl ?_); refine box_event ?hg (N := 6) ?hd (cs := #[.string (⟨#[]⟩ : ByteArray), .string (⟨#[]⟩ : ByteArray)]) (t := 29) ?hr ?_; (case hd => rfl); (case hg => rfl); (case hr => first | (go_simp; done) | (go_simp; rfl)); intro zbn hg w36 hbox hb; have n0_ := Aside0.mk (Kd.R_below (Kd.R_elderB (M.ro zbl) zbn (Nat.le_of_eq hg.symm)) hb); have n1_ := M.roB zbm hb; have n2_ := M.bkB zai hb; have n3_ := M.bkB zao hb; have n4_ := Aside0.mk (IsS66.below (by repeat (first | (with_reducible first | exact HI171.out | apply IsS66.alloc | apply IsS66.drewN | apply IsS66.drew | apply IsS66.set_0 | apply IsS66.set_1 | apply IsS66.set_2 | apply IsS66.set_3 | refine IsS66.far ?_ zal.out _ | refine IsS66.far ?_ zat.out _) | exact HI171.out)) hb); have n5_ := Aside0.mk (below_step (by repeat (first | (with_reducible first | exact HB.out | apply below_alloc | apply pw_below_drewN | apply below_drew1 | refine below_set ?_ (IsS66.ge HI171.out) | refine below_set ?_ zak.out | refine below_set ?_ zaq.out) | exact HB.out)) hb); have n6_ := Aside0.mk (hbox); have n7_ := Aside0.mk ((by rw [hg]; exact (below_size (by repeat (first | (with_reducible first | exact HB.out | apply below_alloc | apply pw_below_drewN | apply below_drew1 | refine below_set ?_ (IsS66.ge HI171.out) | refine below_set ?_ zak.out | refine below_set ?_ zaq.out) | exact HB.out))) : w.heap.size ≤ zbn)); have n8_ := Aside0.mk ((by rw [hg]; exact (below_size (by repeat (first | (with_reducible first | exact HB.out | apply below_alloc | apply pw_below_drewN | apply below_drew1 | refine below_set ?_ (IsS66.ge HI171.out) | refine below_set ?_ zak.out | refine below_set ?_ zaq.out) | exact HB.out))) : w.heap.size ≤ zbn)); have n9_ := M.bkL zai hg; have n10_ := M.bkG zai hg; have n11_ := M.bkL zao hg; have n12_ := M.bkG zao hg; have n13_ := Aside0.mk ((by rw [hg]; exact Nat.ne_of_lt (IsS66.lt (show IsS66 w _ g171 t189 t190 t191 t192 from by repeat (first | (with_reducible first | exact HI171.out | apply IsS66.alloc | apply IsS66.drewN | apply IsS66.drew | apply IsS66.set_0 | apply IsS66.set_1 | apply IsS66.set_2 | apply IsS66.set_3 | refine IsS66.far ?_ zal.out _ | refine IsS66.far ?_ zat.out _) | exact HI171.out))) : g171 ≠ zbn)); have n14_ := Aside0.mk ((by rw [hg]; exact Nat.ne_of_gt (IsS66.lt (show IsS66 w _ g171 t189 t190 t191 t192 from by repeat (first | (with_reducible first | exact HI171.out | apply IsS66.alloc | apply IsS66.drewN | apply IsS66.drew | apply IsS66.set_0 | apply IsS66.set_1 | apply IsS66.set_2 | apply IsS66.set_3 | refine IsS66.far ?_ zal.out _ | refine IsS66.far ?_ zat.out _) | exact HI171.out))) : zbn ≠ g171)); clear zbl zbm zai zao HI171 HB; have zbl := n0_; have zbm := n1_; have zai := n2_; have zao := n3_; have HI171 := n4_; have HB := n5_; have zbo := n6_; have zbp := n7_; have zbq := n8_; have zbr := n9_; have zbs := n10_; have zbt := n11_; have zbu := n12_; have zbv := n13_; have zbw := n14_; clear n0_ n1_ n2_ n3_ n4_ n5_ n6_ n7_ n8_ n9_ n10_ n11_ n12_ n13_ n14_; clear hb hbox hg; have zbx := zbs.out; have zby := zbr.out; have zbz := zbu.out; have zbA := zbt.out; have zbB := zbw.out; have zbC := zbv.out; obtain ⟨zbD, zbE⟩ := M.bc2 (w := w36) (a := .string (⟨#[]⟩ : ByteArray)) (b := .string (⟨#[]⟩ : ByteArray)) zbo.out; obtain ⟨zbF, zbG⟩ := M.bf2 zbo; have zbH := zas.out; have zbI := zar.out; have zbJ := zau.out; have zbK := zat.out; obtain ⟨zbL, zbM, zbN⟩ := M.bc3 (w := w36) (a := .int .i64 zaA) (b := zbj) (c := zbk) zao.out; obtain ⟨zbO, zbP, zbQ⟩ := M.bf3 zao) | ((with_reducible refine gate_callee (f := 22) rfl ?_); refine M.goes (some 34) Try.func22 #[.pointer (some ⟨g171, 0, none⟩), .int .i64 32] rfl ?_; (with_reducible refine (scan_Scan_Fix.calls g171 t189 t190 t191 t192 32 t194 t195 t196 t197 t198 w _ ?side1 ?side2 A31.out).mono ?_); (case side1 => repeat (first | (with_reducible first | exact HI171.out | apply IsS66.alloc | apply IsS66.drewN | apply IsS66.drew | apply IsS66.set_0 | apply IsS66.set_1 | apply IsS66.set_2 | apply IsS66.set_3 | refine IsS66.far ?_ zal.out _ | refine IsS66.far ?_ zat.out _ | refine IsS66.far ?_ zbv.out _) | exact HI171.out)); (case side2 => repeat (first | (with_reducible first | exact HB.out | apply below_alloc | apply pw_below_drewN | apply below_drew1 | refine below_set ?_ (IsS66.ge HI171.out) | refine below_set ?_ zak.out | refine below_set ?_ zaq.out | refine below_set ?_ zbq.out) | exact HB.out)); rintro e w44 ⟨rfl, hi, hb, hk⟩; refine ⟨_, rfl, ?_⟩; have n0_ := Aside0.mk (Kd.R_mono (Kd.R_keep (IsS66.apart (show IsS66 w _ g171 t189 t190 t191 t192 from by repeat (first | (with_reducible first | exact HI171.out | apply IsS66.alloc | apply IsS66.drewN | apply IsS66.drew | apply IsS66.set_0 | apply IsS66.set_1 | apply IsS66.set_2 | apply IsS66.set_3 | refine IsS66.far ?_ zal.out _ | refine IsS66.far ?_ zat.out _ | refine IsS66.far ?_ zbv.out _) | exact HI171.out)) (by (with_reducible repeat (first | apply Kd.R_alloc | apply Kd.R_drewN | apply Kd.R_drew)); exact (Kd.R_mono (Kd.R_far (p := ⟨zbn, 1, none⟩) (Kd.R_far (p := ⟨zbn, 0, none⟩) (Kd.R_mono zbl.out (fun k_ hk => (⟨hk, hk.2⟩ : _ ∧ k_ ≠ zbn))) (fun _ hk => hk.2) (.string t188)) (fun _ hk => hk.2) (.string (⟨#[]⟩ : ByteArray))) (fun _ h_ => h_.1))) (by decide)) hk (fun _ h => h.2)) (fun _ h => h.1)); have n1_ := Aside0.mk (Kd.R_mono (Kd.R_keep (IsS66.apart (show IsS66 w _ g171 t189 t190 t191 t192 from by repeat (first | (with_reducible first | exact HI171.out | apply IsS66.alloc | apply IsS66.drewN | apply IsS66.drew | apply IsS66.set_0 | apply IsS66.set_1 | apply IsS66.set_2 | apply IsS66.set_3 | refine IsS66.far ?_ zal.out _ | refine IsS66.far ?_ zat.out _ | refine IsS66.far ?_ zbv.out _) | exact HI171.out)) (by (with_reducible repeat (first | apply Kd.R_alloc | apply Kd.R_drewN | apply Kd.R_drew)); exact (Kd.R_mono (Kd.R_far (p := ⟨zbn, 1, none⟩) (Kd.R_far (p := ⟨zbn, 0, none⟩) (Kd.R_types zbm.out zbo.out (by decide)) (fun _ hk => hk.2) (.string t188)) (fun _ hk => hk.2) (.string (⟨#[]⟩ : ByteArray))) (fun _ h_ => h_.1))) (by decide)) hk (fun _ h => h.2)) (fun _ h => h.1)); have n2_ := Aside0.mk (KeepBut.blk hk (g' := zah) (o := .cells #[.int .i64 zav, .slice none 0 0, .slice none 0 0] 25 (0, 0)) (by (with_reducible repeat (first | refine blk_drewN ?_ _ | refine blk_drew ?_ | refine blk_alloc ?_ _)); refine blk_far ?_ zbr.out _; (with_reducible repeat (first | refine blk_drewN ?_ _ | refine blk_drew ?_ | refine blk_alloc ?_ _)); refine blk_far ?_ zbr.out _; (with_reducible repeat (first | refine blk_drewN ?_ _ | refine blk_drew ?_ | refine blk_alloc ?_ _)); exact zai.out) zam.out (by simp)); have n3_ := Aside0.mk (KeepBut.blk hk (g' := zan) (o := .cells #[.int .i64 zaA, zbj, zbk] 25 (0, 0)) (by (with_reducible repeat (first | refine blk_drewN ?_ _ | refine blk_drew ?_ | refine blk_alloc ?_ _)); refine blk_far ?_ zbt.out _; (with_reducible repeat (first | refine blk_drewN ?_ _ | refine blk_drew ?_ | refine blk_alloc ?_ _)); refine blk_far ?_ zbt.out _; (with_reducible repeat (first | refine blk_drewN ?_ _ | refine blk_drew ?_ | refine blk_alloc ?_ _)); exact zao.out) zau.out (by simp)); have n4_ := Aside0.mk (KeepBut.blk hk (g' := zbn) (o := .cells #[.string t188, .string (⟨#[]⟩ : ByteArray)] 29 (0, 0)) (by (with_reducible repeat (first | refine blk_drewN ?_ _ | refine blk_drew ?_ | refine blk_alloc ?_ _)); refine blk_put (cs := #[.string t188, .string (⟨#[]⟩ : ByteArray)]) ?_ 1 _ rfl; (with_reducible repeat (first | refine blk_drewN ?_ _ | refine blk_drew ?_ | refine blk_alloc ?_ _)); refine blk_put (cs := #[.string (⟨#[]⟩ : ByteArray), .string (⟨#[]⟩ : ByteArray)]) ?_ 0 _ rfl; (with_reducible repeat (first | refine blk_drewN ?_ _ | refine blk_drew ?_ | refine blk_alloc ?_ _)); exact zbo.out) zbw.out (by simp)); have n5_ := Aside0.mk (hb); have n6_ := Aside0.mk (hi); clear zbl zbm zai zao zbo HB HI171; have zbl := n0_; have zbm := n1_; have zai := n2_; have zao := n3_; have zbo := n4_; have HB := n5_; have HI171 := n6_; clear n0_ n1_ n2_ n3_ n4_ n5_ n6_; (try clear hb); (try clear hk); (try clear hi); obtain ⟨zbR, zbS⟩ := M.bc2 (w := w44) (a := .string t188) (b := .string (⟨#[]⟩ : ByteArray)) zbo.out; obtain ⟨zbT, zbU⟩ := M.bf2 zbo))
                  have n0_ : Aside0 (Kd.R k29 29 (w44.setCell ⟨zbn, 1, none⟩ (.string t194)) w.heap.size (fun k_ => k_ ≠ zbn) zbj zbh) := ⟨by (with_reducible repeat (first | apply Kd.R_alloc | apply Kd.R_drewN | apply Kd.R_drew)); exact Kd.R_mono (Kd.R_far (p := ⟨zbn, 1, none⟩) (Kd.R_mono zbl.out (fun k_ hk => (⟨hk, hk.2⟩ : _ ∧ k_ ≠ zbn))) (fun _ hk => hk.2) (.string t194)) (fun _ hk => hk.1.2)⟩
                  have n1_ : Aside0 (Kd.R (Kd.int .i64) 3 (w44.setCell ⟨zbn, 1, none⟩ (.string t194)) w.heap.size (fun _ => True) zbk zbi) := ⟨by (with_reducible repeat (first | apply Kd.R_alloc | apply Kd.R_drewN | apply Kd.R_drew)); exact Kd.R_mono (Kd.R_far (p := ⟨zbn, 1, none⟩) (Kd.R_types zbm.out zbo.out (by decide)) (fun _ hk => hk.2) (.string t194)) (fun _ hk => trivial)⟩
                  have n2_ : Aside0 ((w44.setCell ⟨zbn, 1, none⟩ (.string t194)).heap[zah]? = some (.cells #[.int .i64 zav, .slice none 0 0, .slice none 0 0] 25 (0, 0))) := ⟨by (with_reducible repeat (first | refine blk_drewN ?_ _ | refine blk_drew ?_ | refine blk_alloc ?_ _)); refine blk_far ?_ zbr.out _; (with_reducible repeat (first | refine blk_drewN ?_ _ | refine blk_drew ?_ | refine blk_alloc ?_ _)); exact zai.out⟩
                  have n3_ : Aside0 ((w44.setCell ⟨zbn, 1, none⟩ (.string t194)).heap[zan]? = some (.cells #[.int .i64 zaA, zbj, zbk] 25 (0, 0))) := ⟨by (with_reducible repeat (first | refine blk_drewN ?_ _ | refine blk_drew ?_ | refine blk_alloc ?_ _)); refine blk_far ?_ zbt.out _; (with_reducible repeat (first | refine blk_drewN ?_ _ | refine blk_drew ?_ | refine blk_alloc ?_ _)); exact zao.out⟩
                  have n4_ : Aside0 ((w44.setCell ⟨zbn, 1, none⟩ (.string t194)).heap[zbn]? = some (.cells #[.string t188, .string t194] 29 (0, 0))) := ⟨by (with_reducible repeat (first | refine blk_drewN ?_ _ | refine blk_drew ?_ | refine blk_alloc ?_ _)); refine blk_put (cs := #[.string t188, .string (⟨#[]⟩ : ByteArray)]) ?_ 1 _ rfl; (with_reducible repeat (first | refine blk_drewN ?_ _ | refine blk_drew ?_ | refine blk_alloc ?_ _)); exact zbo.out⟩
                  have n5_ : Aside0 (IsS66 w (w44.setCell ⟨zbn, 1, none⟩ (.string t194)) g171 t195 t196 t197 t198) := ⟨by repeat (first | (with_reducible first | exact HI171.out | apply IsS66.alloc | apply IsS66.drewN | apply IsS66.drew | apply IsS66.set_0 | apply IsS66.set_1 | apply IsS66.set_2 | apply IsS66.set_3 | refine IsS66.far ?_ zal.out _ | refine IsS66.far ?_ zat.out _ | refine IsS66.far ?_ zbv.out _) | exact HI171.out)⟩
                  have n6_ : Aside0 (Below w.heap.size w (w44.setCell ⟨zbn, 1, none⟩ (.string t194))) := ⟨by repeat (first | (with_reducible first | exact HB.out | apply below_alloc | apply pw_below_drewN | apply below_drew1 | refine below_set ?_ (IsS66.ge HI171.out) | refine below_set ?_ zak.out | refine below_set ?_ zaq.out | refine below_set ?_ zbq.out) | exact HB.out)⟩
                  (try clear zbl)
                  (try clear zbm)
                  (try clear zai)
                  (try clear zao)
                  (try clear zbo)
                  (try clear HI171)
                  (try clear HB)
                  generalize (w44.setCell ⟨zbn, 1, none⟩ (.string t194)) = w46 at n0_ n1_ n2_ n3_ n4_ n5_ n6_ ⊢
                  have zbl := n0_
                  have zbm := n1_
                  have zai := n2_
                  have zao := n3_
                  have zbo := n4_
                  have HI171 := n5_
                  have HB := n6_
                  clear n0_ n1_ n2_ n3_ n4_ n5_ n6_
                  have n0_ := Aside0.mk (Kd.R_drew zbl.out)
                  have n1_ := Aside0.mk (Kd.R_drew zbm.out)
                  have n2_ := Aside0.mk (blk_drew zai.out)
                  have n3_ := Aside0.mk (blk_drew zao.out)
                  have n4_ := Aside0.mk (blk_drew zbo.out)
                  have n5_ := Aside0.mk (IsS66.drew HI171.out)
                  have n6_ := Aside0.mk (below_drew1 HB.out)
                  clear zbl zbm zai zao zbo HI171 HB
                  have zbl := n0_
                  have zbm := n1_
                  have zai := n2_
                  have zao := n3_
                  have zbo := n4_
                  have HI171 := n5_
                  have HB := n6_
                  clear n0_ n1_ n2_ n3_ n4_ n5_ n6_
                  refine start_ (n := 8) (S := fun w' => w'.cell? ⟨zan, 0, none⟩ = some (.int .i64 zaA) ∧ w'.cell? ⟨zan, 1, none⟩ = some (zbj) ∧ w'.cell? ⟨zan, 2, none⟩ = some (zbk)) (ds := [7]) #[false, false, false, false, false, false, false, false] (by kernel_rfl) rfl rfl ⟨(blk_cell zao.out 0).trans rfl, (blk_cell zao.out 1).trans rfl, (blk_cell zao.out 2).trans rfl⟩ (fun hHeld => ?_); refine with_tabW chunk_Take_p.tab15 chunk_Take_p.bits15 (fun HT_ HW_ => ?_)
                  generalize w46.drew = w47 at zbl zbm zai zao zbo HI171 HB hHeld ⊢
                  refine pure_ (i := 0) (N := some 36) (v := ?_) (a' := ?_) #[true, false, false, false, false, false, false, false] rfl rfl (any_of HT_.out (by kernel_rfl)) (fun _ _ _ h => h) (Or.inl ⟨by rfl, ?_⟩) ?_ ?_
                  rotate_left
                  · intro w'
                    go_simp
                    with_reducible rfl
                  rotate_left
                  · simp only [Act.put, List.setIfInBounds_toArray, List.set_cons_zero, List.set_cons_succ, i64_w, i32_w]
                    rfl
                  refine pure_ (i := 2) (N := some 38) (v := ?_) (a' := ?_) #[true, false, true, false, false, false, false, false] rfl rfl (any_of HT_.out (by kernel_rfl)) (fun _ _ _ h => h) (Or.inl ⟨by rfl, ?_⟩) ?_ ?_
                  rotate_left
                  · intro w'
                    go_simp
                    with_reducible rfl
                  rotate_left
                  · simp only [Act.put, List.setIfInBounds_toArray, List.set_cons_zero, List.set_cons_succ, i64_w, i32_w]
                    rfl
                  refine take_ (i := 1) (N := some 37) (v := ?_) (a' := ?_) #[true, true, true, false, false, false, false, false] rfl rfl (take_ofW HT_.out HW_.out (by kernel_rfl)) (fun _ _ _ h => h) (Or.inl ⟨by rfl, ?_⟩) hHeld ?_ ?_
                  rotate_left
                  · rintro w' ⟨s0, s1, s2⟩
                    go_simp
                    with_reducible rfl
                  rotate_left
                  · simp only [Act.put, List.setIfInBounds_toArray, List.set_cons_zero, List.set_cons_succ, i64_w, i32_w]
                    rfl
                  refine one_ (i := 3) (N := some 39) #[true, true, true, true, false, false, false, false] rfl rfl (one_of HT_.out (by kernel_rfl)) (by decide) (fun K hK => ?_)
                  refine goes_ Try.func20 (by kernel_rfl) rfl #[.pointer (some ⟨g171, 0, none⟩), .int .i64 2147483648] (by rfl) rfl rfl (by (try simp only [List.map_toArray, List.map_cons, List.map_nil]); first | done | rfl | (simp only [List.length_drop, List.length_take]; rfl)) ?_
                  with_reducible refine (scan_Scan_Num.calls g171 t195 t196 t197 t198 2147483648 t199 t200 t201 t202 t203 w _ ?side1 ?side2 A32.out).mono ?_
                  (case side1 => repeat (first | (with_reducible first | exact HI171.out | apply IsS66.alloc | apply IsS66.drewN | apply IsS66.drew | apply IsS66.set_0 | apply IsS66.set_1 | apply IsS66.set_2 | apply IsS66.set_3 | refine IsS66.far ?_ zal.out _ | refine IsS66.far ?_ zat.out _ | refine IsS66.far ?_ zbv.out _) | exact HI171.out))
                  (case side2 => repeat (first | (with_reducible first | exact HB.out | apply below_alloc | apply pw_below_drewN | apply below_drew1 | refine below_set ?_ (IsS66.ge HI171.out) | refine below_set ?_ zak.out | refine below_set ?_ zaq.out | refine below_set ?_ zbq.out) | exact HB.out))
                  rintro e w48 ⟨rfl, hi, hb, hk⟩
                  refine ⟨_, rfl, ?_⟩
                  have n0_ := Aside0.mk (Kd.R_mono (Kd.R_keep (IsS66.apart (show IsS66 w _ g171 t195 t196 t197 t198 from by repeat (first | (with_reducible first | exact HI171.out | apply IsS66.alloc | apply IsS66.drewN | apply IsS66.drew | apply IsS66.set_0 | apply IsS66.set_1 | apply IsS66.set_2 | apply IsS66.set_3 | refine IsS66.far ?_ zal.out _ | refine IsS66.far ?_ zat.out _ | refine IsS66.far ?_ zbv.out _) | exact HI171.out)) (M.ro zbl) (by decide)) hk (fun _ h => h.2)) (fun _ h => h.1))
                  have n1_ := Aside0.mk (Kd.R_mono (Kd.R_keep (IsS66.apart (show IsS66 w _ g171 t195 t196 t197 t198 from by repeat (first | (with_reducible first | exact HI171.out | apply IsS66.alloc | apply IsS66.drewN | apply IsS66.drew | apply IsS66.set_0 | apply IsS66.set_1 | apply IsS66.set_2 | apply IsS66.set_3 | refine IsS66.far ?_ zal.out _ | refine IsS66.far ?_ zat.out _ | refine IsS66.far ?_ zbv.out _) | exact HI171.out)) (M.ro zbm) (by decide)) hk (fun _ h => h.2)) (fun _ h => h.1))
                  have n2_ := Aside0.mk (KeepBut.blk hk (g' := zah) (o := .cells #[.int .i64 zav, .slice none 0 0, .slice none 0 0] 25 (0, 0)) (M.bk zai) zam.out (by simp))
                  have n3_ := Aside0.mk (KeepBut.blk hk (g' := zan) (o := .cells #[.int .i64 zaA, zbj, zbk] 25 (0, 0)) (M.bk zao) zau.out (by simp))
                  have n4_ := Aside0.mk (KeepBut.blk hk (g' := zbn) (o := .cells #[.string t188, .string t194] 29 (0, 0)) (M.bk zbo) zbw.out (by simp))
                  have n5_ := Aside0.mk (hb)
                  have n6_ := Aside0.mk (hi)
                  clear zbl zbm zai zao zbo HB HI171
                  have zbl := n0_
                  have zbm := n1_
                  have zai := n2_
                  have zao := n3_
                  have zbo := n4_
                  have HB := n5_
                  have HI171 := n6_
                  clear n0_ n1_ n2_ n3_ n4_ n5_ n6_
                  (try clear hb)
                  (try clear hb2)
                  (try clear hk)
                  (try clear hi)
                  refine hK.out _ _ ⟨(blk_cell zao.out 0).trans rfl, (blk_cell zao.out 1).trans rfl, (blk_cell zao.out 2).trans rfl⟩ (fun hHeld => ?_)
                  clear hK K
                  refine norm_ (a' := ?_) ?_ ?_
                  rotate_left
                  · show Act.put _ (some 39) _ = _
                    simp only [Act.put, List.setIfInBounds_toArray, List.set_cons_zero, List.set_cons_succ, i64_w, i32_w]
                    rfl
                  refine one_ (i := 4) (N := some 40) #[true, true, true, true, true, false, false, false] rfl rfl (one_of HT_.out (by kernel_rfl)) (by decide) (fun K hK => ?_)
                  refine value_ (w1 := ?_) (v := ?_) (by rfl) rfl ?_ ?_
                  rotate_left 2
                  · go_simp
                    constructor
                    · rfl
                    · rfl
                  refine hK.out _ _ ⟨(blk_cell (blk_alloc zao.out _) 0).trans rfl, (blk_cell (blk_alloc zao.out _) 1).trans rfl, (blk_cell (blk_alloc zao.out _) 2).trans rfl⟩ (fun hHeld => ?_)
                  clear hK K
                  refine norm_ (a' := ?_) ?_ ?_
                  rotate_left
                  · show Act.put _ (some 40) _ = _
                    simp only [Act.put, List.setIfInBounds_toArray, List.set_cons_zero, List.set_cons_succ, i64_w, i32_w]
                    rfl
                  refine one_ (i := 5) (N := some 41) #[true, true, true, true, true, true, false, false] rfl rfl (one_of HT_.out (by kernel_rfl)) (by decide) (fun K hK => ?_)
                  refine Kd.R_append_step (Kd.int .i64) (w0 := w) w.heap.size (by rfl) (.tmp 37) (.tmp 40) 23 3 (.int .i64 0) 8 rfl Try.underlying23 info3 rfl (by decide) (by omega) zbk zbi t199 [.int .i64 t199] (fun _ => True) (fun _ => False) rfl rfl ?aP (fun _ hk => hk.elim) ?aF ?aO ?aB ?aS ?aL ?_
                  (case aP => exact rfl)
                  (case aB => exact (by repeat (first | (with_reducible first | exact HB.out | apply below_alloc | apply pw_below_drewN | apply below_drew1 | refine below_set ?_ (IsS66.ge HI171.out) | refine below_set ?_ zak.out | refine below_set ?_ zaq.out | refine below_set ?_ zbq.out) | exact HB.out)))
                  (case aF => exact (fun _ _ => trivial))
                  (case aO => exact (M.ro zbm))
                  (case aS => exact (below_size (by repeat (first | (with_reducible first | exact HB.out | apply below_alloc | apply pw_below_drewN | apply below_drew1 | refine below_set ?_ (IsS66.ge HI171.out) | refine below_set ?_ zak.out | refine below_set ?_ zaq.out | refine below_set ?_ zbq.out) | exact HB.out))))
                  (case aL => have := LMc33.out; omega)
                  intro v205 w49 ho hb hg hat
                  rw [← Ny204.out] at ho
                  have n0_ := Aside0.mk (Kd.R_over' (M.ro zbl) (Kd.R_typed (M.ro zbm)) (by decide) hg)
                  have n1_ := Aside0.mk (blk_grown (g := zah) (o := .cells #[.int .i64 zav, .slice none 0 0, .slice none 0 0] 25 (0, 0)) (M.bk zai) hg (Kd.R_ne zbm.out zai.out (by decide)))
                  have n2_ := Aside0.mk (blk_grown (g := zan) (o := .cells #[.int .i64 zaA, zbj, zbk] 25 (0, 0)) (M.bk zao) hg (Kd.R_ne zbm.out zao.out (by decide)))
                  have n3_ := Aside0.mk (IsS66.grown (by first | exact HI171.out | exact IsS66.far HI171.out zal.out _ | exact IsS66.far HI171.out zat.out _ | exact IsS66.far HI171.out zbv.out _ | (repeat (first | (with_reducible first | exact HI171.out | apply IsS66.alloc | apply IsS66.drewN | apply IsS66.drew | apply IsS66.set_0 | apply IsS66.set_1 | apply IsS66.set_2 | apply IsS66.set_3 | refine IsS66.far ?_ zal.out _ | refine IsS66.far ?_ zat.out _ | refine IsS66.far ?_ zbv.out _) | exact HI171.out))) hg (IsS66.own_ne HI171.out zbm.out (by decide)))
                  have n4_ := Aside0.mk (blk_grown (g := zbn) (o := .cells #[.string t188, .string t194] 29 (0, 0)) (M.bk zbo) hg (Kd.R_ne zbm.out zbo.out (by decide)))
                  have n5_ := Aside0.mk (hb)
                  have n6_ := Aside0.mk (ho)
                  clear zbl zai zao HI171 zbo HB zbm
                  have zbl := n0_
                  have zai := n1_
                  have zao := n2_
                  have HI171 := n3_
                  have zbo := n4_
                  have HB := n5_
                  have HO206 := n6_
                  clear n0_ n1_ n2_ n3_ n4_ n5_ n6_
                  clear ho hb hg hat
                  obtain ⟨Ao50, co50, eo50⟩ := Kd.R_slice HO206.out
                  (first | subst eo50 | (injection eo50 with f1_ f2_ f3_; have f4_ := f1_.symm; have f5_ := f3_.symm; clear f1_ f2_ f3_; subst f4_; subst f5_))
                  refine hK.out _ _ ⟨(blk_cell zao.out 0).trans rfl, (blk_cell zao.out 1).trans rfl, (blk_cell zao.out 2).trans rfl⟩ (fun hHeld => ?_)
                  clear hK K
                  refine norm_ (a' := ?_) ?_ ?_
                  rotate_left
                  · show Act.put _ (some 41) _ = _
                    simp only [Act.put, List.setIfInBounds_toArray, List.set_cons_zero, List.set_cons_succ, i64_w, i32_w]
                    rfl
                  refine pure_ (i := 6) (N := some 42) (v := ?_) (a' := ?_) #[true, true, true, true, true, true, true, false] rfl rfl (any_of HT_.out (by kernel_rfl)) (fun _ _ _ h => h) (Or.inl ⟨by rfl, ?_⟩) ?_ ?_
                  rotate_left
                  · intro w'
                    go_simp
                    with_reducible rfl
                  rotate_left
                  · simp only [Act.put, List.setIfInBounds_toArray, List.set_cons_zero, List.set_cons_succ, i64_w, i32_w]
                    rfl
                  refine last_ (i := 7) (N := none) #[true, true, true, true, true, true, true, true] rfl rfl (one_of HT_.out (by kernel_rfl)) (by decide) (fun K hK => ?_)
                  have hs51 : w49.cell? ⟨zan, 2, none⟩ = some (zbk) := (blk_cell zao.out 2).trans rfl
                  have hfs51 := blk_frozen zao.out 2
                  have hns51_0 := zar.out
                  have hns51_2 := zbu.out
                  have hms51_0 := zas.out
                  have hms51_2 := zbt.out
                  refine skip_ (w1 := ?_) (by rfl) rfl ?_ ?_
                  rotate_left
                  · go_simp
                    rfl
                  refine hK.out _ _ ?_
                  clear hK K
                  refine done_ (done_of HT_.out (by kernel_rfl)) ?_
                  obtain ⟨zbV, zbW, zbX⟩ := M.bc3 (w := w49) (a := .int .i64 zaA) (b := zbj) (c := zbk) zao.out
                  obtain ⟨zbY, zbZ, zb0⟩ := M.bf3 zao
                  obtain ⟨zb1, zb2⟩ := M.bc2 (w := w49) (a := .string t188) (b := .string t194) zbo.out
                  obtain ⟨zb3, zb4⟩ := M.bf2 zbo
                  try go_wp2_with (first | ((with_reducible refine gate_builtin (b := .append) (xs := #[.tmp 47, .tmp 49]) rfl ?_); at_builtin; refine Kd.R_append k29 (w0 := w) w.heap.size rfl (.tmp 47) (.tmp 49) 22 29 (.agg #[(.string ⟨#[]⟩), (.string ⟨#[]⟩)]) 32 rfl Try.underlying22 info29 rfl (by decide) (by omega) zbj zbh (⟨t188, t194⟩ : S29) [.string t188, .string t194] (fun k_ => k_ ≠ zbn) (fun _ => False) rfl (by first | (go_simp; done) | (go_simp; rfl)) ?aP (fun _ hk => hk.elim) ?aF ?aO ?aB ?aS ?aL ?_; (case aP => exact k29_mkM _ _ _ (⟨t188, t194⟩ : S29)); (case aB => exact (by repeat (first | (with_reducible first | exact HB.out | apply below_alloc | apply pw_below_drewN | apply below_drew1 | refine below_set ?_ (IsS66.ge HI171.out) | refine below_set ?_ zak.out | refine below_set ?_ zaq.out | refine below_set ?_ zbq.out) | exact HB.out))); (case aF => exact (fun k_ hk => Kd.freshB (g := zbn) (o := .cells #[.string t188, .string t194] 29 (0, 0)) (by (with_reducible repeat (first | refine blk_drewN ?_ _ | refine blk_drew ?_ | refine blk_alloc ?_ _)); refine blk_far ?_ zbu.out _; (with_reducible repeat (first | refine blk_drewN ?_ _ | refine blk_drew ?_ | refine blk_alloc ?_ _)); exact zbo.out) k_ hk)); (case aO => exact (by (with_reducible repeat (first | apply Kd.R_alloc | apply Kd.R_drewN | apply Kd.R_drew)); exact Kd.R_mono (Kd.R_far (p := ⟨zan, 2, none⟩) (Kd.R_types zbl.out zao.out (by decide)) (fun _ hk => hk.2) (.slice Ao50 y204.length co50)) (fun _ hk => hk.1))); (case aS => exact (below_size (by repeat (first | (with_reducible first | exact HB.out | apply below_alloc | apply pw_below_drewN | apply below_drew1 | refine below_set ?_ (IsS66.ge HI171.out) | refine below_set ?_ zak.out | refine below_set ?_ zaq.out | refine below_set ?_ zbq.out) | exact HB.out)))); (case aL => have := LMc34.out; omega); intro v208 w54 ho hb hg hat; rw [← Ny207.out] at ho; have n0_ := Aside0.mk (blk_grown (g := zah) (o := .cells #[.int .i64 zav, .slice none 0 0, .slice none 0 0] 25 (0, 0)) (by (with_reducible repeat (first | refine blk_drewN ?_ _ | refine blk_drew ?_ | refine blk_alloc ?_ _)); refine blk_far ?_ zar.out _; (with_reducible repeat (first | refine blk_drewN ?_ _ | refine blk_drew ?_ | refine blk_alloc ?_ _)); exact zai.out) hg (Kd.R_ne zbl.out zai.out (by decide))); have n1_ := Aside0.mk (blk_grown (g := zan) (o := .cells #[.int .i64 zaA, zbj, .slice Ao50 y204.length co50] 25 (0, 0)) (by (with_reducible repeat (first | refine blk_drewN ?_ _ | refine blk_drew ?_ | refine blk_alloc ?_ _)); refine blk_put (cs := #[.int .i64 zaA, zbj, zbk]) ?_ 2 _ rfl; (with_reducible repeat (first | refine blk_drewN ?_ _ | refine blk_drew ?_ | refine blk_alloc ?_ _)); exact zao.out) hg (Kd.R_ne zbl.out zao.out (by decide))); have n2_ := Aside0.mk (IsS66.grown (by first | exact HI171.out | exact IsS66.far HI171.out zal.out _ | exact IsS66.far HI171.out zat.out _ | exact IsS66.far HI171.out zbv.out _ | (repeat (first | (with_reducible first | exact HI171.out | apply IsS66.alloc | apply IsS66.drewN | apply IsS66.drew | apply IsS66.set_0 | apply IsS66.set_1 | apply IsS66.set_2 | apply IsS66.set_3 | refine IsS66.far ?_ zal.out _ | refine IsS66.far ?_ zat.out _ | refine IsS66.far ?_ zbv.out _) | exact HI171.out))) hg (IsS66.own_ne HI171.out zbl.out (by decide))); have n3_ := Aside0.mk (blk_grown (g := zbn) (o := .cells #[.string t188, .string t194] 29 (0, 0)) (by (with_reducible repeat (first | refine blk_drewN ?_ _ | refine blk_drew ?_ | refine blk_alloc ?_ _)); refine blk_far ?_ zbu.out _; (with_reducible repeat (first | refine blk_drewN ?_ _ | refine blk_drew ?_ | refine blk_alloc ?_ _)); exact zbo.out) hg (Kd.R_away zbl.out (fun _ hk => hk))); have n4_ := Aside0.mk (Kd.R_over' (by (with_reducible repeat (first | apply Kd.R_alloc | apply Kd.R_drewN | apply Kd.R_drew)); exact (Kd.R_mono (Kd.R_far (p := ⟨zan, 2, none⟩) (Kd.R_types HO206.out zao.out (by decide)) (fun _ hk => hk.2) (.slice Ao50 y204.length co50)) (fun _ h_ => h_.1))) (Kd.R_typed (by (with_reducible repeat (first | apply Kd.R_alloc | apply Kd.R_drewN | apply Kd.R_drew)); exact (Kd.R_mono (Kd.R_far (p := ⟨zan, 2, none⟩) (Kd.R_types zbl.out zao.out (by decide)) (fun _ hk => hk.2) (.slice Ao50 y204.length co50)) (fun _ h_ => h_.1)))) (by decide) hg); have n5_ := Aside0.mk (hb); have n6_ := Aside0.mk (ho); clear zai zao HI171 zbo HO206 HB zbl; have zai := n0_; have zao := n1_; have HI171 := n2_; have zbo := n3_; have HO206 := n4_; have HB := n5_; have HO209 := n6_; clear n0_ n1_ n2_ n3_ n4_ n5_ n6_; clear ho hb hg hat; obtain ⟨Ao55, co55, eo55⟩ := Kd.R_slice HO209.out; subst eo55; obtain ⟨zb5, zb6, zb7⟩ := M.bc3 (w := w54) (a := .int .i64 zaA) (b := zbj) (c := .slice Ao50 y204.length co50) zao.out; obtain ⟨zb8, zb9, zca⟩ := M.bf3 zao))
                  go_roundg k2
                  case measure => have := HJ3.out; have := HK2.out; omega
                  case rel => exact ⟨(wrap64 (x25_2 + 1)), (t200), (t201), (t202), (t203), (y207), (y204), (.slice Ao55 y207.length co55), (.slice Ao50 y204.length co50), (by first | rfl | (simp; done) | (simp [*]; done) | (simp [M.isEmpty_bne]; done)), H', ⟨by have := HJ3.out; have := HK2.out; omega⟩, ⟨by (with_reducible repeat (first | apply Kd.R_alloc | apply Kd.R_drewN | apply Kd.R_drew)); exact Kd.R_mono (Kd.R_far (p := ⟨zan, 1, none⟩) (Kd.R_types HO209.out zao.out (by decide)) (fun _ hk => hk.2) (.slice Ao55 y207.length co55)) (fun _ hk => trivial)⟩, ⟨by (with_reducible repeat (first | apply Kd.R_alloc | apply Kd.R_drewN | apply Kd.R_drew)); exact Kd.R_mono (Kd.R_far (p := ⟨zan, 1, none⟩) (Kd.R_types HO206.out zao.out (by decide)) (fun _ hk => hk.2) (.slice Ao55 y207.length co55)) (fun _ hk => trivial)⟩, ⟨by (with_reducible repeat (first | refine blk_drewN ?_ _ | refine blk_drew ?_ | refine blk_alloc ?_ _)); refine blk_far ?_ zar.out _; (with_reducible repeat (first | refine blk_drewN ?_ _ | refine blk_drew ?_ | refine blk_alloc ?_ _)); exact zai.out⟩, ⟨by (with_reducible repeat (first | refine blk_drewN ?_ _ | refine blk_drew ?_ | refine blk_alloc ?_ _)); refine blk_put (cs := #[.int .i64 zaA, zbj, .slice Ao50 y204.length co50]) ?_ 1 _ rfl; (with_reducible repeat (first | refine blk_drewN ?_ _ | refine blk_drew ?_ | refine blk_alloc ?_ _)); exact zao.out⟩, ⟨by repeat (first | (with_reducible first | exact HI171.out | apply IsS66.alloc | apply IsS66.drewN | apply IsS66.drew | apply IsS66.set_0 | apply IsS66.set_1 | apply IsS66.set_2 | apply IsS66.set_3 | refine IsS66.far ?_ zal.out _ | refine IsS66.far ?_ zat.out _ | refine IsS66.far ?_ zbv.out _) | exact HI171.out)⟩, ⟨by repeat (first | (with_reducible first | exact HB.out | apply below_alloc | apply pw_below_drewN | apply below_drew1 | refine below_set ?_ (IsS66.ge HI171.out) | refine below_set ?_ zak.out | refine below_set ?_ zaq.out | refine below_set ?_ zbq.out) | exact HB.out)⟩⟩
                · rw [if_neg c34] at H
                  exact absurd H (by simp)
              · rw [if_neg c33] at H
                exact absurd H (by simp)
            · rw [if_neg c30] at H
              have c30b0 : decide (0 < zaA) = false := decide_eq_false c30
              clear c30
              replace H := Option.bind_eq_some_iff.mp H
              obtain ⟨⟨t210, t211, t212, t213, t214⟩, A570, H⟩ := H
              replace H : (if zbh.length < 4398046511104 then (chunk_Take_p.l0 k2 t183 (wrap64 (x25_2 + 1)) t211 t212 t213 t214 zaA (zbh ++ [(⟨t188, t210⟩ : S29)]) zbi) else (none)) = some (r1, r2, r3, r4) := H
              have A57 := Aside0.mk A570
              clear A570
              by_cases c58 : zbh.length < 4398046511104
              · rw [if_pos c58] at H
                have LMc58 := Aside0.mk c58
                clear c58
                obtain ⟨y215, hy215⟩ : ∃ y_ : List (S29), y_ = (zbh ++ [(⟨t188, t210⟩ : S29)]) := ⟨_, rfl⟩
                replace H : (chunk_Take_p.l0 k2 t183 (wrap64 (x25_2 + 1)) t211 t212 t213 t214 zaA y215 zbi) = some (r1, r2, r3, r4) := by first | (rw [hy215]; with_reducible exact H) | (have H2_ := (Option.bind_some _ _).symm.trans H; rw [hy215]; with_reducible exact H2_) | (have H2_ := (Option.bind_some _ _).symm.trans H; with_reducible exact H2_) | with_reducible exact H | (rw [hy215]; exact H) | exact H
                have Ny215 := Aside0.mk hy215
                clear hy215
                have H' := Aside0.mk H
                clear H
                go_wp2_with (first | ((with_reducible refine gate_callee (f := 21) rfl ?_); refine M.goes (some 28) Try.func21 #[.pointer (some ⟨g171, 0, none⟩), .int .i64 64] rfl ?_; (with_reducible refine (scan_Scan_Text.calls g171 zbd zbe zbf zbg 64 t188 t189 t190 t191 t192 w _ ?side1 ?side2 A29.out).mono ?_); (case side1 => repeat (first | (with_reducible first | exact HI171.out | apply IsS66.alloc | apply IsS66.drewN | apply IsS66.drew | apply IsS66.set_0 | apply IsS66.set_1 | apply IsS66.set_2 | apply IsS66.set_3 | refine IsS66.far ?_ zal.out _ | refine IsS66.far ?_ zat.out _) | exact HI171.out)); (case side2 => repeat (first | (with_reducible first | exact HB.out | apply below_alloc | apply pw_below_drewN | apply below_drew1 | refine below_set ?_ (IsS66.ge HI171.out) | refine below_set ?_ zak.out | refine below_set ?_ zaq.out) | exact HB.out)); rintro e w59 ⟨rfl, hi, hb, hk⟩; refine ⟨_, rfl, ?_⟩; have n0_ := Aside0.mk (Kd.R_mono (Kd.R_keep (IsS66.apart (show IsS66 w _ g171 zbd zbe zbf zbg from by repeat (first | (with_reducible first | exact HI171.out | apply IsS66.alloc | apply IsS66.drewN | apply IsS66.drew | apply IsS66.set_0 | apply IsS66.set_1 | apply IsS66.set_2 | apply IsS66.set_3 | refine IsS66.far ?_ zal.out _ | refine IsS66.far ?_ zat.out _) | exact HI171.out)) (M.ro zbl) (by decide)) hk (fun _ h => h.2)) (fun _ h => h.1)); have n1_ := Aside0.mk (Kd.R_mono (Kd.R_keep (IsS66.apart (show IsS66 w _ g171 zbd zbe zbf zbg from by repeat (first | (with_reducible first | exact HI171.out | apply IsS66.alloc | apply IsS66.drewN | apply IsS66.drew | apply IsS66.set_0 | apply IsS66.set_1 | apply IsS66.set_2 | apply IsS66.set_3 | refine IsS66.far ?_ zal.out _ | refine IsS66.far ?_ zat.out _) | exact HI171.out)) (M.ro zbm) (by decide)) hk (fun _ h => h.2)) (fun _ h => h.1)); have n2_ := Aside0.mk (KeepBut.blk hk (g' := zah) (o := .cells #[.int .i64 zav, .slice none 0 0, .slice none 0 0] 25 (0, 0)) (M.bk zai) zam.out (by simp)); have n3_ := Aside0.mk (KeepBut.blk hk (g' := zan) (o := .cells #[.int .i64 zaA, zbj, zbk] 25 (0, 0)) (M.bk zao) zau.out (by simp)); have n4_ := Aside0.mk (hb); have n5_ := Aside0.mk (hi); clear zbl zbm zai zao HB HI171; have zbl := n0_; have zbm := n1_; have zai := n2_; have zao := n3_; have HB := n4_; have HI171 := n5_; clear n0_ n1_ n2_ n3_ n4_ n5_; (try clear hb); (try clear hk); (try clear hi)) | ((with_reducible refine gate_dst (N := 6) rfl ?_); refine box_event ?hg (N := 6) ?hd (cs := #[.string (⟨#[]⟩ : ByteArray), .string (⟨#[]⟩ : ByteArray)]) (t := 29) ?hr ?_; (case hd => rfl); (case hg => rfl); (case hr => first | (go_simp; done) | (go_simp; rfl)); intro zbn hg w60 hbox hb; have n0_ := Aside0.mk (Kd.R_below (Kd.R_elderB (M.ro zbl) zbn (Nat.le_of_eq hg.symm)) hb); have n1_ := M.roB zbm hb; have n2_ := M.bkB zai hb; have n3_ := M.bkB zao hb; have n4_ := Aside0.mk (IsS66.below (by repeat (first | (with_reducible first | exact HI171.out | apply IsS66.alloc | apply IsS66.drewN | apply IsS66.drew | apply IsS66.set_0 | apply IsS66.set_1 | apply IsS66.set_2 | apply IsS66.set_3 | refine IsS66.far ?_ zal.out _ | refine IsS66.far ?_ zat.out _) | exact HI171.out)) hb); have n5_ := Aside0.mk (below_step (by repeat (first | (with_reducible first | exact HB.out | apply below_alloc | apply pw_below_drewN | apply below_drew1 | refine below_set ?_ (IsS66.ge HI171.out) | refine below_set ?_ zak.out | refine below_set ?_ zaq.out) | exact HB.out)) hb); have n6_ := Aside0.mk (hbox); have n7_ := Aside0.mk ((by rw [hg]; exact (below_size (by repeat (first | (with_reducible first | exact HB.out | apply below_alloc | apply pw_below_drewN | apply below_drew1 | refine below_set ?_ (IsS66.ge HI171.out) | refine below_set ?_ zak.out | refine below_set ?_ zaq.out) | exact HB.out))) : w.heap.size ≤ zbn)); have n8_ := Aside0.mk ((by rw [hg]; exact (below_size (by repeat (first | (with_reducible first | exact HB.out | apply below_alloc | apply pw_below_drewN | apply below_drew1 | refine below_set ?_ (IsS66.ge HI171.out) | refine below_set ?_ zak.out | refine below_set ?_ zaq.out) | exact HB.out))) : w.heap.size ≤ zbn)); have n9_ := M.bkL zai hg; have n10_ := M.bkG zai hg; have n11_ := M.bkL zao hg; have n12_ := M.bkG zao hg; have n13_ := Aside0.mk ((by rw [hg]; exact Nat.ne_of_lt (IsS66.lt (show IsS66 w _ g171 t189 t190 t191 t192 from by repeat (first | (with_reducible first | exact HI171.out | apply IsS66.alloc | apply IsS66.drewN | apply IsS66.drew | apply IsS66.set_0 | apply IsS66.set_1 | apply IsS66.set_2 | apply IsS66.set_3 | refine IsS66.far ?_ zal.out _ | refine IsS66.far ?_ zat.out _) | exact HI171.out))) : g171 ≠ zbn)); have n14_ := Aside0.mk ((by rw [hg]; exact Nat.ne_of_gt (IsS66.lt (show IsS66 w _ g171 t189 t190 t191 t192 from by repeat (first | (with_reducible first | exact HI171.out | apply IsS66.alloc | apply IsS66.drewN | apply IsS66.drew | apply IsS66.set_0 | apply IsS66.set_1 | apply IsS66.set_2 | apply IsS66.set_3 | refine IsS66.far ?_ zal.out _ | refine IsS66.far ?_ zat.out _) | exact HI171.out))) : zbn ≠ g171)); clear zbl zbm zai zao HI171 HB; have zbl := n0_; have zbm := n1_; have zai := n2_; have zao := n3_; have HI171 := n4_; have HB := n5_; have zbo := n6_; have zbp := n7_; have zbq := n8_; have zbr := n9_; have zbs := n10_; have zbt := n11_; have zbu := n12_; have zbv := n13_; have zbw := n14_; clear n0_ n1_ n2_ n3_ n4_ n5_ n6_ n7_ n8_ n9_ n10_ n11_ n12_ n13_ n14_; clear hb hbox hg; have zcb := zbs.out; have zcc := zbr.out; have zcd := zbu.out; have zce := zbt.out; have zcf := zbw.out; have zcg := zbv.out; obtain ⟨zch, zci⟩ := M.bc2 (w := w60) (a := .string (⟨#[]⟩ : ByteArray)) (b := .string (⟨#[]⟩ : ByteArray)) zbo.out; obtain ⟨zcj, zck⟩ := M.bf2 zbo; have zcl := zas.out; have zcm := zar.out; have zcn := zau.out; have zco := zat.out; obtain ⟨zcp, zcq, zcr⟩ := M.bc3 (w := w60) (a := .int .i64 zaA) (b := zbj) (c := zbk) zao.out; obtain ⟨zcs, zct, zcu⟩ := M.bf3 zao) | ((with_reducible refine gate_callee (f := 21) rfl ?_); refine M.goes (some 44) Try.func21 #[.pointer (some ⟨g171, 0, none⟩), .int .i64 2048] rfl ?_; (with_reducible refine (scan_Scan_Text.calls g171 t189 t190 t191 t192 2048 t210 t211 t212 t213 t214 w _ ?side1 ?side2 A57.out).mono ?_); (case side1 => repeat (first | (with_reducible first | exact HI171.out | apply IsS66.alloc | apply IsS66.drewN | apply IsS66.drew | apply IsS66.set_0 | apply IsS66.set_1 | apply IsS66.set_2 | apply IsS66.set_3 | refine IsS66.far ?_ zal.out _ | refine IsS66.far ?_ zat.out _ | refine IsS66.far ?_ zbv.out _) | exact HI171.out)); (case side2 => repeat (first | (with_reducible first | exact HB.out | apply below_alloc | apply pw_below_drewN | apply below_drew1 | refine below_set ?_ (IsS66.ge HI171.out) | refine below_set ?_ zak.out | refine below_set ?_ zaq.out | refine below_set ?_ zbq.out) | exact HB.out)); rintro e w68 ⟨rfl, hi, hb, hk⟩; refine ⟨_, rfl, ?_⟩; have n0_ := Aside0.mk (Kd.R_mono (Kd.R_keep (IsS66.apart (show IsS66 w _ g171 t189 t190 t191 t192 from by repeat (first | (with_reducible first | exact HI171.out | apply IsS66.alloc | apply IsS66.drewN | apply IsS66.drew | apply IsS66.set_0 | apply IsS66.set_1 | apply IsS66.set_2 | apply IsS66.set_3 | refine IsS66.far ?_ zal.out _ | refine IsS66.far ?_ zat.out _ | refine IsS66.far ?_ zbv.out _) | exact HI171.out)) (by (with_reducible repeat (first | apply Kd.R_alloc | apply Kd.R_drewN | apply Kd.R_drew)); exact (Kd.R_mono (Kd.R_far (p := ⟨zbn, 1, none⟩) (Kd.R_far (p := ⟨zbn, 0, none⟩) (Kd.R_mono zbl.out (fun k_ hk => (⟨hk, hk.2⟩ : _ ∧ k_ ≠ zbn))) (fun _ hk => hk.2) (.string t188)) (fun _ hk => hk.2) (.string (⟨#[]⟩ : ByteArray))) (fun _ h_ => h_.1))) (by decide)) hk (fun _ h => h.2)) (fun _ h => h.1)); have n1_ := Aside0.mk (Kd.R_mono (Kd.R_keep (IsS66.apart (show IsS66 w _ g171 t189 t190 t191 t192 from by repeat (first | (with_reducible first | exact HI171.out | apply IsS66.alloc | apply IsS66.drewN | apply IsS66.drew | apply IsS66.set_0 | apply IsS66.set_1 | apply IsS66.set_2 | apply IsS66.set_3 | refine IsS66.far ?_ zal.out _ | refine IsS66.far ?_ zat.out _ | refine IsS66.far ?_ zbv.out _) | exact HI171.out)) (by (with_reducible repeat (first | apply Kd.R_alloc | apply Kd.R_drewN | apply Kd.R_drew)); exact (Kd.R_mono (Kd.R_far (p := ⟨zbn, 1, none⟩) (Kd.R_far (p := ⟨zbn, 0, none⟩) (Kd.R_types zbm.out zbo.out (by decide)) (fun _ hk => hk.2) (.string t188)) (fun _ hk => hk.2) (.string (⟨#[]⟩ : ByteArray))) (fun _ h_ => h_.1))) (by decide)) hk (fun _ h => h.2)) (fun _ h => h.1)); have n2_ := Aside0.mk (KeepBut.blk hk (g' := zah) (o := .cells #[.int .i64 zav, .slice none 0 0, .slice none 0 0] 25 (0, 0)) (by (with_reducible repeat (first | refine blk_drewN ?_ _ | refine blk_drew ?_ | refine blk_alloc ?_ _)); refine blk_far ?_ zbr.out _; (with_reducible repeat (first | refine blk_drewN ?_ _ | refine blk_drew ?_ | refine blk_alloc ?_ _)); refine blk_far ?_ zbr.out _; (with_reducible repeat (first | refine blk_drewN ?_ _ | refine blk_drew ?_ | refine blk_alloc ?_ _)); exact zai.out) zam.out (by simp)); have n3_ := Aside0.mk (KeepBut.blk hk (g' := zan) (o := .cells #[.int .i64 zaA, zbj, zbk] 25 (0, 0)) (by (with_reducible repeat (first | refine blk_drewN ?_ _ | refine blk_drew ?_ | refine blk_alloc ?_ _)); refine blk_far ?_ zbt.out _; (with_reducible repeat (first | refine blk_drewN ?_ _ | refine blk_drew ?_ | refine blk_alloc ?_ _)); refine blk_far ?_ zbt.out _; (with_reducible repeat (first | refine blk_drewN ?_ _ | refine blk_drew ?_ | refine blk_alloc ?_ _)); exact zao.out) zau.out (by simp)); have n4_ := Aside0.mk (KeepBut.blk hk (g' := zbn) (o := .cells #[.string t188, .string (⟨#[]⟩ : ByteArray)] 29 (0, 0)) (by (with_reducible repeat (first | refine blk_drewN ?_ _ | refine blk_drew ?_ | refine blk_alloc ?_ _)); refine blk_put (cs := #[.string t188, .string (⟨#[]⟩ : ByteArray)]) ?_ 1 _ rfl; (with_reducible repeat (first | refine blk_drewN ?_ _ | refine blk_drew ?_ | refine blk_alloc ?_ _)); refine blk_put (cs := #[.string (⟨#[]⟩ : ByteArray), .string (⟨#[]⟩ : ByteArray)]) ?_ 0 _ rfl; (with_reducible repeat (first | refine blk_drewN ?_ _ | refine blk_drew ?_ | refine blk_alloc ?_ _)); exact zbo.out) zbw.out (by simp)); have n5_ := Aside0.mk (hb); have n6_ := Aside0.mk (hi); clear zbl zbm zai zao zbo HB HI171; have zbl := n0_; have zbm := n1_; have zai := n2_; have zao := n3_; have zbo := n4_; have HB := n5_; have HI171 := n6_; clear n0_ n1_ n2_ n3_ n4_ n5_ n6_; (try clear hb); (try clear hk); (try clear hi); obtain ⟨zcv, zcw⟩ := M.bc2 (w := w68) (a := .string t188) (b := .string (⟨#[]⟩ : ByteArray)) zbo.out; obtain ⟨zcx, zcy⟩ := M.bf2 zbo; obtain ⟨zcz, zcA, zcB⟩ := M.bc3 (w := w68) (a := .int .i64 zaA) (b := zbj) (c := zbk) zao.out; obtain ⟨zcC, zcD, zcE⟩ := M.bf3 zao) | ((with_reducible refine gate_builtin (b := .append) (xs := #[.tmp 47, .tmp 49]) rfl ?_); at_builtin; refine Kd.R_append k29 (w0 := w) w.heap.size rfl (.tmp 47) (.tmp 49) 22 29 (.agg #[(.string ⟨#[]⟩), (.string ⟨#[]⟩)]) 32 rfl Try.underlying22 info29 rfl (by decide) (by omega) zbj zbh (⟨t188, t210⟩ : S29) [.string t188, .string t210] (fun k_ => k_ ≠ zbn) (fun _ => False) rfl (by first | (go_simp; done) | (go_simp; rfl)) ?aP (fun _ hk => hk.elim) ?aF ?aO ?aB ?aS ?aL ?_; (case aP => exact k29_mkM _ _ _ (⟨t188, t210⟩ : S29)); (case aB => exact (by repeat (first | (with_reducible first | exact HB.out | apply below_alloc | apply pw_below_drewN | apply below_drew1 | refine below_set ?_ (IsS66.ge HI171.out) | refine below_set ?_ zak.out | refine below_set ?_ zaq.out | refine below_set ?_ zbq.out) | exact HB.out))); (case aF => exact (fun k_ hk => Kd.freshB (g := zbn) (o := .cells #[.string t188, .string t210] 29 (0, 0)) (by (with_reducible repeat (first | refine blk_drewN ?_ _ | refine blk_drew ?_ | refine blk_alloc ?_ _)); refine blk_put (cs := #[.string t188, .string (⟨#[]⟩ : ByteArray)]) ?_ 1 _ rfl; (with_reducible repeat (first | refine blk_drewN ?_ _ | refine blk_drew ?_ | refine blk_alloc ?_ _)); exact zbo.out) k_ hk)); (case aO => exact (by (with_reducible repeat (first | apply Kd.R_alloc | apply Kd.R_drewN | apply Kd.R_drew)); exact Kd.R_mono (Kd.R_far (p := ⟨zbn, 1, none⟩) (Kd.R_mono zbl.out (fun k_ hk => (⟨hk, hk.2⟩ : _ ∧ k_ ≠ zbn))) (fun _ hk => hk.2) (.string t210)) (fun _ hk => hk.1.2))); (case aS => exact (below_size (by repeat (first | (with_reducible first | exact HB.out | apply below_alloc | apply pw_below_drewN | apply below_drew1 | refine below_set ?_ (IsS66.ge HI171.out) | refine below_set ?_ zak.out | refine below_set ?_ zaq.out | refine below_set ?_ zbq.out) | exact HB.out)))); (case aL => have := LMc58.out; omega); intro v216 w71 ho hb hg hat; rw [← Ny215.out] at ho; have n0_ := Aside0.mk (Kd.R_over' (by (with_reducible repeat (first | apply Kd.R_alloc | apply Kd.R_drewN | apply Kd.R_drew)); exact (Kd.R_mono (Kd.R_far (p := ⟨zbn, 1, none⟩) (Kd.R_types zbm.out zbo.out (by decide)) (fun _ hk => hk.2) (.string t210)) (fun _ h_ => h_.1))) (Kd.R_typed (by (with_reducible repeat (first | apply Kd.R_alloc | apply Kd.R_drewN | apply Kd.R_drew)); exact (Kd.R_mono (Kd.R_far (p := ⟨zbn, 1, none⟩) (Kd.R_mono zbl.out (fun k_ hk => (⟨hk, hk.2⟩ : _ ∧ k_ ≠ zbn))) (fun _ hk => hk.2) (.string t210)) (fun _ h_ => h_.1)))) (by decide) hg); have n1_ := Aside0.mk (blk_grown (g := zah) (o := .cells #[.int .i64 zav, .slice none 0 0, .slice none 0 0] 25 (0, 0)) (by (with_reducible repeat (first | refine blk_drewN ?_ _ | refine blk_drew ?_ | refine blk_alloc ?_ _)); refine blk_far ?_ zbr.out _; (with_reducible repeat (first | refine blk_drewN ?_ _ | refine blk_drew ?_ | refine blk_alloc ?_ _)); exact zai.out) hg (Kd.R_ne zbl.out zai.out (by decide))); have n2_ := Aside0.mk (blk_grown (g := zan) (o := .cells #[.int .i64 zaA, zbj, zbk] 25 (0, 0)) (by (with_reducible repeat (first | refine blk_drewN ?_ _ | refine blk_drew ?_ | refine blk_alloc ?_ _)); refine blk_far ?_ zbt.out _; (with_reducible repeat (first | refine blk_drewN ?_ _ | refine blk_drew ?_ | refine blk_alloc ?_ _)); exact zao.out) hg (Kd.R_ne zbl.out zao.out (by decide))); have n3_ := Aside0.mk (IsS66.grown (by first | exact HI171.out | exact IsS66.far HI171.out zal.out _ | exact IsS66.far HI171.out zat.out _ | exact IsS66.far HI171.out zbv.out _ | (repeat (first | (with_reducible first | exact HI171.out | apply IsS66.alloc | apply IsS66.drewN | apply IsS66.drew | apply IsS66.set_0 | apply IsS66.set_1 | apply IsS66.set_2 | apply IsS66.set_3 | refine IsS66.far ?_ zal.out _ | refine IsS66.far ?_ zat.out _ | refine IsS66.far ?_ zbv.out _) | exact HI171.out))) hg (IsS66.own_ne HI171.out zbl.out (by decide))); have n4_ := Aside0.mk (blk_grown (g := zbn) (o := .cells #[.string t188, .string t210] 29 (0, 0)) (by (with_reducible repeat (first | refine blk_drewN ?_ _ | refine blk_drew ?_ | refine blk_alloc ?_ _)); refine blk_put (cs := #[.string t188, .string (⟨#[]⟩ : ByteArray)]) ?_ 1 _ rfl; (with_reducible repeat (first | refine blk_drewN ?_ _ | refine blk_drew ?_ | refine blk_alloc ?_ _)); exact zbo.out) hg (Kd.R_away zbl.out (fun _ hk => hk.2))); have n5_ := Aside0.mk (hb); have n6_ := Aside0.mk (ho); clear zbm zai zao HI171 zbo HB zbl; have zbm := n0_; have zai := n1_; have zao := n2_; have HI171 := n3_; have zbo := n4_; have HB := n5_; have HO217 := n6_; clear n0_ n1_ n2_ n3_ n4_ n5_ n6_; clear ho hb hg hat; obtain ⟨Ao72, co72, eo72⟩ := Kd.R_slice HO217.out; subst eo72; obtain ⟨zcF, zcG, zcH⟩ := M.bc3 (w := w71) (a := .int .i64 zaA) (b := zbj) (c := zbk) zao.out; obtain ⟨zcI, zcJ, zcK⟩ := M.bf3 zao))
                go_roundg k2
                case measure => have := HJ3.out; have := HK2.out; omega
                case rel => exact ⟨(wrap64 (x25_2 + 1)), (t211), (t212), (t213), (t214), (y215), (zbi), (.slice Ao72 y215.length co72), (zbk), (by first | rfl | (simp; done) | (simp [*]; done) | (simp [M.isEmpty_bne]; done)), H', ⟨by have := HJ3.out; have := HK2.out; omega⟩, ⟨by (with_reducible repeat (first | apply Kd.R_alloc | apply Kd.R_drewN | apply Kd.R_drew)); exact Kd.R_mono (Kd.R_far (p := ⟨zan, 1, none⟩) (Kd.R_types HO217.out zao.out (by decide)) (fun _ hk => hk.2) (.slice Ao72 y215.length co72)) (fun _ hk => trivial)⟩, ⟨by (with_reducible repeat (first | apply Kd.R_alloc | apply Kd.R_drewN | apply Kd.R_drew)); exact Kd.R_mono (Kd.R_far (p := ⟨zan, 1, none⟩) (Kd.R_types zbm.out zao.out (by decide)) (fun _ hk => hk.2) (.slice Ao72 y215.length co72)) (fun _ hk => trivial)⟩, ⟨by (with_reducible repeat (first | refine blk_drewN ?_ _ | refine blk_drew ?_ | refine blk_alloc ?_ _)); refine blk_far ?_ zar.out _; (with_reducible repeat (first | refine blk_drewN ?_ _ | refine blk_drew ?_ | refine blk_alloc ?_ _)); exact zai.out⟩, ⟨by (with_reducible repeat (first | refine blk_drewN ?_ _ | refine blk_drew ?_ | refine blk_alloc ?_ _)); refine blk_put (cs := #[.int .i64 zaA, zbj, zbk]) ?_ 1 _ rfl; (with_reducible repeat (first | refine blk_drewN ?_ _ | refine blk_drew ?_ | refine blk_alloc ?_ _)); exact zao.out⟩, ⟨by repeat (first | (with_reducible first | exact HI171.out | apply IsS66.alloc | apply IsS66.drewN | apply IsS66.drew | apply IsS66.set_0 | apply IsS66.set_1 | apply IsS66.set_2 | apply IsS66.set_3 | refine IsS66.far ?_ zal.out _ | refine IsS66.far ?_ zat.out _ | refine IsS66.far ?_ zbv.out _) | exact HI171.out)⟩, ⟨by repeat (first | (with_reducible first | exact HB.out | apply below_alloc | apply pw_below_drewN | apply below_drew1 | refine below_set ?_ (IsS66.ge HI171.out) | refine below_set ?_ zak.out | refine below_set ?_ zaq.out | refine below_set ?_ zbq.out) | exact HB.out)⟩⟩
              · rw [if_neg c58] at H
                exact absurd H (by simp)
          · rw [if_neg c28] at H
            have c28b0 : decide (x25_2 < t183) = false := decide_eq_false c28
            clear c28
            replace H := Option.bind_eq_some_iff.mp H
            obtain ⟨⟨t218, t219, t220, t221, t222⟩, A740, H⟩ := H
            replace H : (if t218 = 0 then ((chunk_Check.f zaA zbh zbi).bind fun t223 => (if t223 = 0 then (some (zaA, zbh, zbi, 0)) else (some (0, ([] : List (S29)), ([] : List Int), 3)))) else (some (0, ([] : List (S29)), ([] : List Int), 3))) = some (r1, r2, r3, r4) := H
            have A74 := Aside0.mk A740
            clear A740
            by_cases c75 : t218 = 0
            · rw [if_pos c75] at H
              have c75b0 : (t218 == 0) = true := beq_iff_eq.mpr c75
              have c75b1 : (t218 != 0) = false := bne_eq_false_iff_eq.mpr c75
              clear c75
              replace H := Option.bind_eq_some_iff.mp H
              obtain ⟨t223, A760, H⟩ := H
              replace H : (if t223 = 0 then (some (zaA, zbh, zbi, 0)) else (some (0, ([] : List (S29)), ([] : List Int), 3))) = some (r1, r2, r3, r4) := H
              have A76 := Aside0.mk A760
              clear A760
              by_cases c77 : t223 = 0
              · rw [if_pos c77] at H
                have c77b0 : (t223 == 0) = true := beq_iff_eq.mpr c77
                have c77b1 : (t223 != 0) = false := bne_eq_false_iff_eq.mpr c77
                clear c77
                simp only [Option.some.injEq, Prod.mk.injEq] at H
                obtain ⟨rfl, rfl, rfl, rfl⟩ := H
                go_wp2_with (first | ((with_reducible refine gate_callee (f := 23) rfl ?_); refine M.goes (some 54) Try.func23 #[.pointer (some ⟨g171, 0, none⟩)] rfl ?_; (with_reducible refine (scan_Scan_End.calls g171 zbd zbe zbf zbg t218 t219 t220 t221 t222 w _ ?side1 ?side2 A74.out).mono ?_); (case side1 => repeat (first | (with_reducible first | exact HI171.out | apply IsS66.alloc | apply IsS66.drewN | apply IsS66.drew | apply IsS66.set_0 | apply IsS66.set_1 | apply IsS66.set_2 | apply IsS66.set_3 | refine IsS66.far ?_ zal.out _ | refine IsS66.far ?_ zat.out _) | exact HI171.out)); (case side2 => repeat (first | (with_reducible first | exact HB.out | apply below_alloc | apply pw_below_drewN | apply below_drew1 | refine below_set ?_ (IsS66.ge HI171.out) | refine below_set ?_ zak.out | refine below_set ?_ zaq.out) | exact HB.out)); rintro e w78 ⟨rfl, hi, hb, hk⟩; refine ⟨_, rfl, ?_⟩; have n0_ := Aside0.mk (Kd.R_mono (Kd.R_keep (IsS66.apart (show IsS66 w _ g171 zbd zbe zbf zbg from by repeat (first | (with_reducible first | exact HI171.out | apply IsS66.alloc | apply IsS66.drewN | apply IsS66.drew | apply IsS66.set_0 | apply IsS66.set_1 | apply IsS66.set_2 | apply IsS66.set_3 | refine IsS66.far ?_ zal.out _ | refine IsS66.far ?_ zat.out _) | exact HI171.out)) (M.ro zbl) (by decide)) hk (fun _ h => h.2)) (fun _ h => h.1)); have n1_ := Aside0.mk (Kd.R_mono (Kd.R_keep (IsS66.apart (show IsS66 w _ g171 zbd zbe zbf zbg from by repeat (first | (with_reducible first | exact HI171.out | apply IsS66.alloc | apply IsS66.drewN | apply IsS66.drew | apply IsS66.set_0 | apply IsS66.set_1 | apply IsS66.set_2 | apply IsS66.set_3 | refine IsS66.far ?_ zal.out _ | refine IsS66.far ?_ zat.out _) | exact HI171.out)) (M.ro zbm) (by decide)) hk (fun _ h => h.2)) (fun _ h => h.1)); have n2_ := Aside0.mk (KeepBut.blk hk (g' := zah) (o := .cells #[.int .i64 zav, .slice none 0 0, .slice none 0 0] 25 (0, 0)) (M.bk zai) zam.out (by simp)); have n3_ := Aside0.mk (KeepBut.blk hk (g' := zan) (o := .cells #[.int .i64 zaA, zbj, zbk] 25 (0, 0)) (M.bk zao) zau.out (by simp)); have n4_ := Aside0.mk (hb); have n5_ := Aside0.mk (hi); clear zbl zbm zai zao HB HI171; have zbl := n0_; have zbm := n1_; have zai := n2_; have zao := n3_; have HB := n4_; have HI171 := n5_; clear n0_ n1_ n2_ n3_ n4_ n5_; (try clear hb); (try clear hk); (try clear hi); have zcL := zas.out; have zcM := zar.out; have zcN := zau.out; have zcO := zat.out; obtain ⟨zcP, zcQ, zcR⟩ := M.bc3 (w := w78) (a := .int .i64 zaA) (b := zbj) (c := zbk) zao.out; obtain ⟨zcS, zcT, zcU⟩ := M.bf3 zao; obtain ⟨Ao82, co82, eo82⟩ := Kd.R_slice zbl.out; subst eo82; obtain ⟨Ao83, co83, eo83⟩ := Kd.R_slice zbm.out; subst eo83) | (go_at_call 24; (with_reducible refine (chunk_Check.calls zaA _ _ zbh _ _ zbi t223 _ ?side1 ?side2 ?side3 ?side4 A76.out).mono ?_); (case side1 => repeat (first | exact (Kd.R_reads' zbl.out).2.2 | (with_reducible refine Kd.C_alloc ?_ _) | (with_reducible refine Kd.C_drewN ?_ _) | (with_reducible refine Kd.C_drew ?_))); (case side2 => exact (Kd.R_reads' zbl.out).2.1); (case side3 => repeat (first | exact (Kd.R_reads' zbm.out).2.2 | (with_reducible refine Kd.C_alloc ?_ _) | (with_reducible refine Kd.C_drewN ?_ _) | (with_reducible refine Kd.C_drew ?_))); (case side4 => exact (Kd.R_reads' zbm.out).2.1); rintro e w84 ⟨rfl, hb⟩; have n0_ := M.roB zbl hb; have n1_ := M.roB zbm hb; have n2_ := M.bkB zai hb; have n3_ := M.bkB zao hb; have n4_ := Aside0.mk (IsS66.below (by repeat (first | (with_reducible first | exact HI171.out | apply IsS66.alloc | apply IsS66.drewN | apply IsS66.drew | apply IsS66.set_0 | apply IsS66.set_1 | apply IsS66.set_2 | apply IsS66.set_3 | refine IsS66.far ?_ zal.out _ | refine IsS66.far ?_ zat.out _) | exact HI171.out)) hb); have n5_ := Aside0.mk (below_step (by repeat (first | (with_reducible first | exact HB.out | apply below_alloc | apply pw_below_drewN | apply below_drew1 | refine below_set ?_ (IsS66.ge HI171.out) | refine below_set ?_ zak.out | refine below_set ?_ zaq.out) | exact HB.out)) hb); clear zbl zbm zai zao HI171 HB; have zbl := n0_; have zbm := n1_; have zai := n2_; have zao := n3_; have HI171 := n4_; have HB := n5_; clear n0_ n1_ n2_ n3_ n4_ n5_; (try clear hb); (try clear hb2); (try clear hk); (try clear hi); obtain ⟨zcV, zcW, zcX⟩ := M.bc3 (w := w84) (a := .int .i64 zaA) (b := .slice Ao82 zbh.length co82) (c := .slice Ao83 zbi.length co83) zao.out; obtain ⟨zcY, zcZ, zc0⟩ := M.bf3 zao; have zc1 := zam.out; have zc2 := zal.out; obtain ⟨zc3, zc4, zc5⟩ := M.bc3 (w := w84) (a := .int .i64 zav) (b := .slice none 0 0) (c := .slice none 0 0) zai.out; obtain ⟨zc6, zc7, zc8⟩ := M.bf3 zai))
                refine bodyPost_ret (results_ct rfl _ _ zah 25 #[.int .i64 zaA, .slice Ao82 zbh.length co82, .slice Ao83 zbi.length co83] (0, 0) _ rfl (by (with_reducible repeat (first | refine blk_drewN ?_ _ | refine blk_drew ?_ | refine blk_alloc ?_ _)); refine blk_put (cs := #[.int .i64 zaA, .slice Ao82 zbh.length co82, .slice none 0 0]) ?_ 2 _ rfl; (with_reducible repeat (first | refine blk_drewN ?_ _ | refine blk_drew ?_ | refine blk_alloc ?_ _)); refine blk_put (cs := #[.int .i64 zaA, .slice none 0 0, .slice none 0 0]) ?_ 1 _ rfl; (with_reducible repeat (first | refine blk_drewN ?_ _ | refine blk_drew ?_ | refine blk_alloc ?_ _)); refine blk_put (cs := #[.int .i64 zav, .slice none 0 0, .slice none 0 0]) ?_ 0 _ rfl; (with_reducible repeat (first | refine blk_drewN ?_ _ | refine blk_drew ?_ | refine blk_alloc ?_ _)); exact zai.out) Try.underlying25 rfl (by kernel_rfl)) rfl ?_
                exact ⟨_, _, by first | rfl | (simp [errW_none, errW_some] <;> rfl) | (simp [*, errW_none, errW_some] <;> rfl), by (with_reducible repeat (first | apply Kd.R_alloc | apply Kd.R_drewN | apply Kd.R_drew)); exact Kd.R_mono (Kd.R_far (p := ⟨zah, 2, none⟩) (Kd.R_far (p := ⟨zah, 1, none⟩) (Kd.R_far (p := ⟨zah, 0, none⟩) (Kd.R_types zbl.out zai.out (by decide)) (fun _ hk => hk.2) (.int .i64 zaA)) (fun _ hk => hk.2) (.slice Ao82 zbh.length co82)) (fun _ hk => hk.2) (.slice Ao83 zbi.length co83)) (fun _ hk => trivial), by (with_reducible repeat (first | apply Kd.R_alloc | apply Kd.R_drewN | apply Kd.R_drew)); exact Kd.R_mono (Kd.R_far (p := ⟨zah, 2, none⟩) (Kd.R_far (p := ⟨zah, 1, none⟩) (Kd.R_far (p := ⟨zah, 0, none⟩) (Kd.R_types zbm.out zai.out (by decide)) (fun _ hk => hk.2) (.int .i64 zaA)) (fun _ hk => hk.2) (.slice Ao82 zbh.length co82)) (fun _ hk => hk.2) (.slice Ao83 zbi.length co83)) (fun _ hk => trivial), by repeat (first | (with_reducible first | exact HB.out | apply below_alloc | apply pw_below_drewN | apply below_drew1 | refine below_set ?_ (IsS66.ge HI171.out) | refine below_set ?_ zak.out | refine below_set ?_ zaq.out) | exact HB.out)⟩
              · rw [if_neg c77] at H
                have c77b0 : (t223 == 0) = false := beq_eq_false_iff_ne.mpr c77
                have c77b1 : (t223 != 0) = true := bne_iff_ne.mpr c77
                simp only [Option.some.injEq, Prod.mk.injEq] at H
                obtain ⟨rfl, rfl, rfl, rfl⟩ := H
                go_wp2_with (first | ((with_reducible refine gate_callee (f := 23) rfl ?_); refine M.goes (some 54) Try.func23 #[.pointer (some ⟨g171, 0, none⟩)] rfl ?_; (with_reducible refine (scan_Scan_End.calls g171 zbd zbe zbf zbg t218 t219 t220 t221 t222 w _ ?side1 ?side2 A74.out).mono ?_); (case side1 => repeat (first | (with_reducible first | exact HI171.out | apply IsS66.alloc | apply IsS66.drewN | apply IsS66.drew | apply IsS66.set_0 | apply IsS66.set_1 | apply IsS66.set_2 | apply IsS66.set_3 | refine IsS66.far ?_ zal.out _ | refine IsS66.far ?_ zat.out _) | exact HI171.out)); (case side2 => repeat (first | (with_reducible first | exact HB.out | apply below_alloc | apply pw_below_drewN | apply below_drew1 | refine below_set ?_ (IsS66.ge HI171.out) | refine below_set ?_ zak.out | refine below_set ?_ zaq.out) | exact HB.out)); rintro e w88 ⟨rfl, hi, hb, hk⟩; refine ⟨_, rfl, ?_⟩; have n0_ := Aside0.mk (Kd.R_mono (Kd.R_keep (IsS66.apart (show IsS66 w _ g171 zbd zbe zbf zbg from by repeat (first | (with_reducible first | exact HI171.out | apply IsS66.alloc | apply IsS66.drewN | apply IsS66.drew | apply IsS66.set_0 | apply IsS66.set_1 | apply IsS66.set_2 | apply IsS66.set_3 | refine IsS66.far ?_ zal.out _ | refine IsS66.far ?_ zat.out _) | exact HI171.out)) (M.ro zbl) (by decide)) hk (fun _ h => h.2)) (fun _ h => h.1)); have n1_ := Aside0.mk (Kd.R_mono (Kd.R_keep (IsS66.apart (show IsS66 w _ g171 zbd zbe zbf zbg from by repeat (first | (with_reducible first | exact HI171.out | apply IsS66.alloc | apply IsS66.drewN | apply IsS66.drew | apply IsS66.set_0 | apply IsS66.set_1 | apply IsS66.set_2 | apply IsS66.set_3 | refine IsS66.far ?_ zal.out _ | refine IsS66.far ?_ zat.out _) | exact HI171.out)) (M.ro zbm) (by decide)) hk (fun _ h => h.2)) (fun _ h => h.1)); have n2_ := Aside0.mk (KeepBut.blk hk (g' := zah) (o := .cells #[.int .i64 zav, .slice none 0 0, .slice none 0 0] 25 (0, 0)) (M.bk zai) zam.out (by simp)); have n3_ := Aside0.mk (KeepBut.blk hk (g' := zan) (o := .cells #[.int .i64 zaA, zbj, zbk] 25 (0, 0)) (M.bk zao) zau.out (by simp)); have n4_ := Aside0.mk (hb); have n5_ := Aside0.mk (hi); clear zbl zbm zai zao HB HI171; have zbl := n0_; have zbm := n1_; have zai := n2_; have zao := n3_; have HB := n4_; have HI171 := n5_; clear n0_ n1_ n2_ n3_ n4_ n5_; (try clear hb); (try clear hk); (try clear hi); have zc9 := zas.out; have zda := zar.out; have zdb := zau.out; have zdc := zat.out; obtain ⟨zdd, zde, zdf⟩ := M.bc3 (w := w88) (a := .int .i64 zaA) (b := zbj) (c := zbk) zao.out; obtain ⟨zdg, zdh, zdi⟩ := M.bf3 zao; obtain ⟨Ao92, co92, eo92⟩ := Kd.R_slice zbl.out; subst eo92; obtain ⟨Ao93, co93, eo93⟩ := Kd.R_slice zbm.out; subst eo93) | (go_at_call 24; (with_reducible refine (chunk_Check.calls zaA _ _ zbh _ _ zbi t223 _ ?side1 ?side2 ?side3 ?side4 A76.out).mono ?_); (case side1 => repeat (first | exact (Kd.R_reads' zbl.out).2.2 | (with_reducible refine Kd.C_alloc ?_ _) | (with_reducible refine Kd.C_drewN ?_ _) | (with_reducible refine Kd.C_drew ?_))); (case side2 => exact (Kd.R_reads' zbl.out).2.1); (case side3 => repeat (first | exact (Kd.R_reads' zbm.out).2.2 | (with_reducible refine Kd.C_alloc ?_ _) | (with_reducible refine Kd.C_drewN ?_ _) | (with_reducible refine Kd.C_drew ?_))); (case side4 => exact (Kd.R_reads' zbm.out).2.1); rintro e w94 ⟨rfl, hb⟩; have n0_ := M.roB zbl hb; have n1_ := M.roB zbm hb; have n2_ := M.bkB zai hb; have n3_ := M.bkB zao hb; have n4_ := Aside0.mk (IsS66.below (by repeat (first | (with_reducible first | exact HI171.out | apply IsS66.alloc | apply IsS66.drewN | apply IsS66.drew | apply IsS66.set_0 | apply IsS66.set_1 | apply IsS66.set_2 | apply IsS66.set_3 | refine IsS66.far ?_ zal.out _ | refine IsS66.far ?_ zat.out _) | exact HI171.out)) hb); have n5_ := Aside0.mk (below_step (by repeat (first | (with_reducible first | exact HB.out | apply below_alloc | apply pw_below_drewN | apply below_drew1 | refine below_set ?_ (IsS66.ge HI171.out) | refine below_set ?_ zak.out | refine below_set ?_ zaq.out) | exact HB.out)) hb); clear zbl zbm zai zao HI171 HB; have zbl := n0_; have zbm := n1_; have zai := n2_; have zao := n3_; have HI171 := n4_; have HB := n5_; clear n0_ n1_ n2_ n3_ n4_ n5_; (try clear hb); (try clear hb2); (try clear hk); (try clear hi); have zdj := zam.out; have zdk := zal.out; obtain ⟨zdl, zdm, zdn⟩ := M.bc3 (w := w94) (a := .int .i64 zav) (b := .slice none 0 0) (c := .slice none 0 0) zai.out; obtain ⟨zdo, zdp, zdq⟩ := M.bf3 zai))
                refine bodyPost_ret (results_ct rfl _ _ zah 25 #[.int .i64 0, .slice none 0 0, .slice none 0 0] (0, 0) _ rfl (by (with_reducible repeat (first | refine blk_drewN ?_ _ | refine blk_drew ?_ | refine blk_alloc ?_ _)); refine blk_put (cs := #[.int .i64 0, .slice none 0 0, .slice none 0 0]) ?_ 2 _ rfl; (with_reducible repeat (first | refine blk_drewN ?_ _ | refine blk_drew ?_ | refine blk_alloc ?_ _)); refine blk_put (cs := #[.int .i64 0, .slice none 0 0, .slice none 0 0]) ?_ 1 _ rfl; (with_reducible repeat (first | refine blk_drewN ?_ _ | refine blk_drew ?_ | refine blk_alloc ?_ _)); refine blk_put (cs := #[.int .i64 zav, .slice none 0 0, .slice none 0 0]) ?_ 0 _ rfl; (with_reducible repeat (first | refine blk_drewN ?_ _ | refine blk_drew ?_ | refine blk_alloc ?_ _)); exact zai.out) Try.underlying25 rfl (by kernel_rfl)) rfl ?_
                exact ⟨_, _, by first | rfl | (simp [errW_none, errW_some] <;> rfl) | (simp [*, errW_none, errW_some] <;> rfl), by first | exact Kd.R_nil _ _ _ _ _ | exact Kd.N_nil _ _ _ _ _ | exact Kd.V_nil _ _ _ _ _ | exact Kd.Q_nil _ _ _ _ _ | exact Kd.S_nil _ _ _ _ _, by first | exact Kd.R_nil _ _ _ _ _ | exact Kd.N_nil _ _ _ _ _ | exact Kd.V_nil _ _ _ _ _ | exact Kd.Q_nil _ _ _ _ _ | exact Kd.S_nil _ _ _ _ _, by repeat (first | (with_reducible first | exact HB.out | apply below_alloc | apply pw_below_drewN | apply below_drew1 | refine below_set ?_ (IsS66.ge HI171.out) | refine below_set ?_ zak.out | refine below_set ?_ zaq.out) | exact HB.out)⟩
            · rw [if_neg c75] at H
              have c75b0 : (t218 == 0) = false := beq_eq_false_iff_ne.mpr c75
              have c75b1 : (t218 != 0) = true := bne_iff_ne.mpr c75
              simp only [Option.some.injEq, Prod.mk.injEq] at H
              obtain ⟨rfl, rfl, rfl, rfl⟩ := H
              go_wp2_with (first | ((with_reducible refine gate_callee (f := 23) rfl ?_); refine M.goes (some 54) Try.func23 #[.pointer (some ⟨g171, 0, none⟩)] rfl ?_; (with_reducible refine (scan_Scan_End.calls g171 zbd zbe zbf zbg t218 t219 t220 t221 t222 w _ ?side1 ?side2 A74.out).mono ?_); (case side1 => repeat (first | (with_reducible first | exact HI171.out | apply IsS66.alloc | apply IsS66.drewN | apply IsS66.drew | apply IsS66.set_0 | apply IsS66.set_1 | apply IsS66.set_2 | apply IsS66.set_3 | refine IsS66.far ?_ zal.out _ | refine IsS66.far ?_ zat.out _) | exact HI171.out)); (case side2 => repeat (first | (with_reducible first | exact HB.out | apply below_alloc | apply pw_below_drewN | apply below_drew1 | refine below_set ?_ (IsS66.ge HI171.out) | refine below_set ?_ zak.out | refine below_set ?_ zaq.out) | exact HB.out)); rintro e w97 ⟨rfl, hi, hb, hk⟩; refine ⟨_, rfl, ?_⟩; have n0_ := Aside0.mk (Kd.R_mono (Kd.R_keep (IsS66.apart (show IsS66 w _ g171 zbd zbe zbf zbg from by repeat (first | (with_reducible first | exact HI171.out | apply IsS66.alloc | apply IsS66.drewN | apply IsS66.drew | apply IsS66.set_0 | apply IsS66.set_1 | apply IsS66.set_2 | apply IsS66.set_3 | refine IsS66.far ?_ zal.out _ | refine IsS66.far ?_ zat.out _) | exact HI171.out)) (M.ro zbl) (by decide)) hk (fun _ h => h.2)) (fun _ h => h.1)); have n1_ := Aside0.mk (Kd.R_mono (Kd.R_keep (IsS66.apart (show IsS66 w _ g171 zbd zbe zbf zbg from by repeat (first | (with_reducible first | exact HI171.out | apply IsS66.alloc | apply IsS66.drewN | apply IsS66.drew | apply IsS66.set_0 | apply IsS66.set_1 | apply IsS66.set_2 | apply IsS66.set_3 | refine IsS66.far ?_ zal.out _ | refine IsS66.far ?_ zat.out _) | exact HI171.out)) (M.ro zbm) (by decide)) hk (fun _ h => h.2)) (fun _ h => h.1)); have n2_ := Aside0.mk (KeepBut.blk hk (g' := zah) (o := .cells #[.int .i64 zav, .slice none 0 0, .slice none 0 0] 25 (0, 0)) (M.bk zai) zam.out (by simp)); have n3_ := Aside0.mk (KeepBut.blk hk (g' := zan) (o := .cells #[.int .i64 zaA, zbj, zbk] 25 (0, 0)) (M.bk zao) zau.out (by simp)); have n4_ := Aside0.mk (hb); have n5_ := Aside0.mk (hi); clear zbl zbm zai zao HB HI171; have zbl := n0_; have zbm := n1_; have zai := n2_; have zao := n3_; have HB := n4_; have HI171 := n5_; clear n0_ n1_ n2_ n3_ n4_ n5_; (try clear hb); (try clear hk); (try clear hi); have zdr := zar.out; have zds := zas.out; have zdt := zam.out; have zdu := zal.out; obtain ⟨zdv, zdw, zdx⟩ := M.bc3 (w := w97) (a := .int .i64 zav) (b := .slice none 0 0) (c := .slice none 0 0) zai.out; obtain ⟨zdy, zdz, zdA⟩ := M.bf3 zai))
              refine bodyPost_ret (results_ct rfl _ _ zah 25 #[.int .i64 0, .slice none 0 0, .slice none 0 0] (0, 0) _ rfl (by (with_reducible repeat (first | refine blk_drewN ?_ _ | refine blk_drew ?_ | refine blk_alloc ?_ _)); refine blk_put (cs := #[.int .i64 0, .slice none 0 0, .slice none 0 0]) ?_ 2 _ rfl; (with_reducible repeat (first | refine blk_drewN ?_ _ | refine blk_drew ?_ | refine blk_alloc ?_ _)); refine blk_put (cs := #[.int .i64 0, .slice none 0 0, .slice none 0 0]) ?_ 1 _ rfl; (with_reducible repeat (first | refine blk_drewN ?_ _ | refine blk_drew ?_ | refine blk_alloc ?_ _)); refine blk_put (cs := #[.int .i64 zav, .slice none 0 0, .slice none 0 0]) ?_ 0 _ rfl; (with_reducible repeat (first | refine blk_drewN ?_ _ | refine blk_drew ?_ | refine blk_alloc ?_ _)); exact zai.out) Try.underlying25 rfl (by kernel_rfl)) rfl ?_
              exact ⟨_, _, by first | rfl | (simp [errW_none, errW_some] <;> rfl) | (simp [*, errW_none, errW_some] <;> rfl), by first | exact Kd.R_nil _ _ _ _ _ | exact Kd.N_nil _ _ _ _ _ | exact Kd.V_nil _ _ _ _ _ | exact Kd.Q_nil _ _ _ _ _ | exact Kd.S_nil _ _ _ _ _, by first | exact Kd.R_nil _ _ _ _ _ | exact Kd.N_nil _ _ _ _ _ | exact Kd.V_nil _ _ _ _ _ | exact Kd.Q_nil _ _ _ _ _ | exact Kd.S_nil _ _ _ _ _, by repeat (first | (with_reducible first | exact HB.out | apply below_alloc | apply pw_below_drewN | apply below_drew1 | refine below_set ?_ (IsS66.ge HI171.out) | refine below_set ?_ zak.out | refine below_set ?_ zaq.out) | exact HB.out)⟩

-- this session's own plain form
def chunk_Take.fin (s : ByteArray) (lv : Int) (r : List S29 × List Int × Int × Int) : Int × List S29 × List Int × Int :=
  if M.xend s r.2.2.1 r.2.2.2 = 0 ∧ chunk_fits.wrong lv r.1 r.2.1 = 0 then (lv, r.1, r.2.1, 0) else (0, [], [], 3)
def chunk_fits.rest (s : ByteArray) (lv p er : Int) : List S29 × List Int × Int × Int := chunk_fits.read s lv (M.xnum s p er 8).1.toNat (M.xnum s p er 8).2.1 (M.xnum s p er 8).2.2
def chunk_Take.res (s : ByteArray) : Int × List S29 × List Int × Int :=
  if (M.xbyte s 0 0).1 = 76 then chunk_Take.fin s 0 (chunk_fits.rest s 0 (M.xbyte s 0 0).2.1 (M.xbyte s 0 0).2.2)
  else if (M.xbyte s 0 0).1 = 73 then (if (M.xnum s (M.xbyte s 0 0).2.1 (M.xbyte s 0 0).2.2 40).1 = 0 then (0, [], [], 3)
    else chunk_Take.fin s (M.xnum s (M.xbyte s 0 0).2.1 (M.xbyte s 0 0).2.2 40).1 (chunk_fits.rest s (M.xnum s (M.xbyte s 0 0).2.1 (M.xbyte s 0 0).2.2 40).1 (M.xnum s (M.xbyte s 0 0).2.1 (M.xbyte s 0 0).2.2 40).2.1 (M.xnum s (M.xbyte s 0 0).2.1 (M.xbyte s 0 0).2.2 40).2.2))
  else (0, [], [], 3)
def chunk_Take.f (a0 : ByteArray) : Option (Int × List S29 × List Int × Int) := if a0.size ≤ 9223372036854775806 then some (chunk_Take.res a0) else none
theorem chunk_Take.loop (s : ByteArray) (lv n : Int) (hn : n ≤ 8) (d : Nat) : ∀ (i : Nat) (p er : Int) (es : List S29) (cs : List Int), (i : Int) + d = n → M.sok s p → es.length ≤ 100 + i → cs.length ≤ 100 + i →
    chunk_Take_p.l0 (d + 1) n (i : Int) s p er true lv es cs = some (chunk_Take.fin s lv (es ++ (chunk_fits.read s lv d p er).1, cs ++ (chunk_fits.read s lv d p er).2.1, (chunk_fits.read s lv d p er).2.2.1, (chunk_fits.read s lv d p er).2.2.2)) := by
  induction d with
  | zero =>
    intro i p er es cs hi hs he hc
    rw [chunk_Take_p.l0, if_neg (by omega), scan_Scan_End.eq, Option.bind_some]
    simp only [chunk_fits.read, List.append_nil]
    unfold chunk_Take.fin chunk_Check.f
    by_cases h0 : M.xend s p er = 0
    · rw [if_pos h0, if_pos ⟨by omega, by omega⟩, Option.bind_some]
      by_cases h1 : chunk_fits.wrong lv es cs = 0
      · rw [if_pos h1, if_pos ⟨h0, h1⟩]
      · rw [if_neg h1, if_neg (fun z => h1 z.2)]
    · rw [if_neg h0, if_neg (fun z => h0 z.1)]
  | succ d ih =>
    intro i p er es cs hi hs he hc
    have hk := M.xtext_ok s er 64 hs
    have hi1 : wrap64 ((i : Int) + 1) = ((i + 1 : Nat) : Int) := by rw [M.wrap64_id (by omega) (by omega)]; omega
    rw [chunk_Take_p.l0, if_pos (by omega), hi1]
    unfold scan_Scan_Text.f
    rw [if_pos rfl, if_pos ⟨hs, by decide⟩, Option.bind_some]
    simp only
    by_cases hl : lv > 0
    · have hv := M.xfix_ok s (M.xtext s p er 64).2.2 32 hk
      have hm := M.xnum_ok s (M.xfix s (M.xtext s p er 64).2.1 (M.xtext s p er 64).2.2 32).2.2 2147483648 hv
      unfold scan_Scan_Fix.f scan_Scan_take.f
      rw [if_pos hl, if_pos rfl, if_pos ⟨hk, by decide, by decide⟩, Option.bind_some]
      simp only
      rw [scan_Scan_Num.eq _ _ _ _ hv (by decide), Option.bind_some]
      simp only
      rw [if_pos (by omega), if_pos (by omega), ih (i + 1) _ _ _ _ (by omega) hm (by simp; omega) (by simp; omega)]
      simp only [chunk_fits.read, if_pos hl, List.append_assoc, List.singleton_append]
    · have hv := M.xtext_ok s (M.xtext s p er 64).2.2 2048 hk
      rw [if_neg hl]
      rw [if_pos trivial, if_pos ⟨hk, by decide⟩, Option.bind_some]
      simp only
      rw [if_pos (by omega), ih (i + 1) _ _ _ _ (by omega) hv (by simp; omega) (by omega)]
      simp only [chunk_fits.read, if_neg hl, List.append_assoc, List.singleton_append]
theorem chunk_Take.ev (s : ByteArray) (r : Int × List S29 × List Int × Int) (h : chunk_Take.f s = some r) : ∃ k, chunk_Take_p.f k s = some r := by
  unfold chunk_Take.f at h
  split at h
  case isFalse => cases h
  case isTrue hz =>
    have h0 : M.sok s 0 := ⟨by decide, by omega, by omega⟩
    have hb := M.xbyte_ok s 0 h0
    have hl := M.xnum_ok s (M.xbyte s 0 0).2.2 40 hb
    have hj : ∀ (lv p er : Int), M.sok s p → ∃ k, chunk_Take_p.j0 k s p er true lv = some (chunk_Take.fin s lv (chunk_fits.rest s lv p er)) := by
      intro lv p er hs
      have hr := M.xnum_range s (er := er) hs (most := 8) (by decide) (by decide)
      refine ⟨(M.xnum s p er 8).1.toNat + 1 + 1, ?_⟩
      rw [chunk_Take_p.j0, scan_Scan_Num.eq _ _ _ _ hs (by decide), Option.bind_some]
      have := chunk_Take.loop s lv (M.xnum s p er 8).1 hr.2 (M.xnum s p er 8).1.toNat 0 (M.xnum s p er 8).2.1 (M.xnum s p er 8).2.2 [] [] (by omega) (M.xnum_ok s er 8 hs) (by simp) (by simp)
      simp only [List.nil_append] at this
      exact this
    rw [← h]
    unfold chunk_Take_p.f scan_New.f scan_Scan_Byte.f chunk_Take.res
    simp only [Option.bind_some]
    simp only [if_true, if_pos h0, Option.bind_some]
    by_cases c1 : (M.xbyte s 0 0).1 = 76
    · obtain ⟨k, hk⟩ := hj 0 _ (M.xbyte s 0 0).2.2 hb
      exact ⟨k, by rw [if_pos c1, if_pos c1]; exact hk⟩
    · by_cases c2 : (M.xbyte s 0 0).1 = 73
      · by_cases c3 : (M.xnum s (M.xbyte s 0 0).2.1 (M.xbyte s 0 0).2.2 40).1 = 0
        · refine ⟨0, ?_⟩
          rw [if_neg c1, if_pos c2, if_neg c1, if_pos c2, scan_Scan_Num.eq _ _ _ _ hb (by decide), Option.bind_some]
          simp only
          rw [if_pos c3, if_pos c3]
        · obtain ⟨k, hk⟩ := hj (M.xnum s (M.xbyte s 0 0).2.1 (M.xbyte s 0 0).2.2 40).1 _ (M.xnum s (M.xbyte s 0 0).2.1 (M.xbyte s 0 0).2.2 40).2.2 hl
          refine ⟨k, ?_⟩
          rw [if_neg c1, if_pos c2, if_neg c1, if_pos c2, scan_Scan_Num.eq _ _ _ _ hb (by decide), Option.bind_some]
          simp only
          rw [if_neg c3, if_neg c3]
          exact hk
      · exact ⟨0, by rw [if_neg c1, if_neg c2, if_neg c1, if_neg c2]⟩
theorem chunk_Take.calls (a0 : ByteArray) (r1 : Int) (r2 : List (S29)) (r3 : List Int) (r4 : Int) (w : World) (h : chunk_Take.f a0 = some (r1, r2, r3, r4)) :
    Calls Try.prog 15 #[.string a0] w fun e w' => ∃ v1_ v2_ : Value, e = .returned (.tuple #[.agg #[.int .i64 r1, v1_, v2_], .int .i64 r4]) ∧ Kd.R k29 29 w' w.heap.size (fun _ => True) v1_ r2 ∧ Kd.R (Kd.int .i64) 3 w' w.heap.size (fun _ => True) v2_ r3 ∧ Below w.heap.size w w' := by
  obtain ⟨k, hk⟩ := chunk_Take.ev _ _ h
  exact chunk_Take_p.calls (k := k) (w := w) (h := hk)

/-! ### pleachref04_fix_p: function 38 -/
def pleachref04_fix_p.f (a0_0 : ByteArray) (a0_1 : Int) (a0_2 : Int) (a1 : Int) : Option (ByteArray × Int × Int × ByteArray) := if a0_2 = 0 then (if a1 < 0 then (some (a0_0, a0_1, 3, (⟨#[]⟩ : ByteArray))) else (if a1 > (wrap64 ((a0_0.size : Int) - a0_1)) then (some (a0_0, a0_1, 3, (⟨#[]⟩ : ByteArray))) else (if 0 ≤ a0_1 then (if a0_1 ≤ (wrap64 (a0_1 + a1)) then (if (wrap64 (a0_1 + a1)) ≤ (a0_0.size : Int) then (some (a0_0, wrap64 (a0_1 + a1), a0_2, a0_0.extract (a0_1 : Int).toNat ((wrap64 (a0_1 + a1)) : Int).toNat)) else (none)) else (none)) else (none)))) else (some (a0_0, a0_1, a0_2, (⟨#[]⟩ : ByteArray)))
set_option maxHeartbeats 8000000 in
set_option maxRecDepth 100000 in
theorem pleachref04_fix_p.calls (a0_0 : ByteArray) (a0_1 : Int) (a0_2 : Int) (a1 : Int) (r1 : ByteArray) (r2 : Int) (r3 : Int) (r4 : ByteArray) (w : World) (h : pleachref04_fix_p.f a0_0 a0_1 a0_2 a1 = some (r1, r2, r3, r4)) :
    Calls Try.prog 38 #[.agg #[.string a0_0, .int .i64 a0_1, .int .i64 a0_2], .int .i64 a1] w fun e w' => e = .returned (.tuple #[.agg #[.string r1, .int .i64 r2, .int .i64 r3], .string r4]) ∧ Below w.heap.size w w' := by
  have hu57 := Try.underlying57
  have HB := Aside0.mk (Below.refl w.heap.size w)
  have H : (if a0_2 = 0 then (if a1 < 0 then (some (a0_0, a0_1, 3, (⟨#[]⟩ : ByteArray))) else (if a1 > (wrap64 ((a0_0.size : Int) - a0_1)) then (some (a0_0, a0_1, 3, (⟨#[]⟩ : ByteArray))) else (if 0 ≤ a0_1 then (if a0_1 ≤ (wrap64 (a0_1 + a1)) then (if (wrap64 (a0_1 + a1)) ≤ (a0_0.size : Int) then (some (a0_0, wrap64 (a0_1 + a1), a0_2, a0_0.extract (a0_1 : Int).toNat ((wrap64 (a0_1 + a1)) : Int).toNat)) else (none)) else (none)) else (none)))) else (some (a0_0, a0_1, a0_2, (⟨#[]⟩ : ByteArray)))) = some (r1, r2, r3, r4) := h
  clear h
  by_cases c3 : a0_2 = 0
  · rw [if_pos c3] at H
    have c3b0 : (a0_2 == 0) = true := beq_iff_eq.mpr c3
    have c3b1 : (a0_2 != 0) = false := bne_eq_false_iff_eq.mpr c3
    clear c3
    by_cases c4 : a1 < 0
    · rw [if_pos c4] at H
      have c4b0 : decide (a1 < 0) = true := decide_eq_true c4
      clear c4
      simp only [Option.some.injEq, Prod.mk.injEq] at H
      obtain ⟨rfl, rfl, rfl, rfl⟩ := H
      go_enter Try.func38, Try.ntmps38
      go_wp2_with (first | ((with_reducible refine gate_dst (N := 2) rfl ?_); (try (refine gate_guard (by rfl) ?_; dsimp only)); refine box_event ?hg (N := 2) ?hd (cs := #[.string a0_0, .int .i64 a0_1, .int .i64 a0_2]) (t := 57) ?hr ?_; (case hd => rfl); (case hg => rfl); (case hr => first | (go_simp; done) | (go_simp; rfl)); intro zdB hg w5 hbox hb; have n0_ := M.upS HB hb; have n1_ := Aside0.mk (hbox); have n2_ := M.upG HB hg; have n3_ := M.upG HB hg; clear HB; have HB := n0_; have zdC := n1_; have zdD := n2_; have zdE := n3_; clear n0_ n1_ n2_ n3_; clear hb hbox hg) | ((with_reducible refine gate_dst (N := 4) rfl ?_); (try (refine gate_guard (by rfl) ?_; dsimp only)); refine box_event ?hg (N := 4) ?hd (cs := #[.string (⟨#[]⟩ : ByteArray), .int .i64 0, .int .i64 0]) (t := 57) ?hr ?_; (case hd => rfl); (case hg => rfl); (case hr => first | (go_simp; done) | (go_simp; rfl)); intro zdF hg w6 hbox hb; have n0_ := M.bkB zdC hb; have n1_ := M.upS HB hb; have n2_ := Aside0.mk (hbox); have n3_ := M.upG HB hg; have n4_ := M.upG HB hg; have n5_ := M.bkL zdC hg; have n6_ := M.bkG zdC hg; clear zdC HB; have zdC := n0_; have HB := n1_; have zdG := n2_; have zdH := n3_; have zdI := n4_; have zdJ := n5_; have zdK := n6_; clear n0_ n1_ n2_ n3_ n4_ n5_ n6_; clear hb hbox hg; have zdL := zdJ.out; have zdM := zdK.out; obtain ⟨zdN, zdO, zdP⟩ := M.bc3 (w := w6) (a := .string a0_0) (b := .int .i64 a0_1) (c := .int .i64 a0_2) zdC.out; obtain ⟨zdQ, zdR, zdS⟩ := M.bf3 zdC; obtain ⟨zdT, zdU, zdV⟩ := M.bc3 (w := w6) (a := .string (⟨#[]⟩ : ByteArray)) (b := .int .i64 0) (c := .int .i64 0) zdG.out; obtain ⟨zdW, zdX, zdY⟩ := M.bf3 zdG))
      refine bodyPost_ret (results_ct rfl _ _ zdF 57 #[.string a0_0, .int .i64 a0_1, .int .i64 3] (0, 0) _ rfl (by (with_reducible repeat (first | refine blk_drewN ?_ _ | refine blk_drew ?_ | refine blk_alloc ?_ _)); refine blk_put (cs := #[.string a0_0, .int .i64 a0_1, .int .i64 0]) ?_ 2 _ rfl; (with_reducible repeat (first | refine blk_drewN ?_ _ | refine blk_drew ?_ | refine blk_alloc ?_ _)); refine blk_put (cs := #[.string a0_0, .int .i64 0, .int .i64 0]) ?_ 1 _ rfl; (with_reducible repeat (first | refine blk_drewN ?_ _ | refine blk_drew ?_ | refine blk_alloc ?_ _)); refine blk_put (cs := #[.string (⟨#[]⟩ : ByteArray), .int .i64 0, .int .i64 0]) ?_ 0 _ rfl; (with_reducible repeat (first | refine blk_drewN ?_ _ | refine blk_drew ?_ | refine blk_alloc ?_ _)); refine blk_far ?_ zdK.out _; (with_reducible repeat (first | refine blk_drewN ?_ _ | refine blk_drew ?_ | refine blk_alloc ?_ _)); exact zdG.out) Try.underlying57 rfl (by kernel_rfl)) rfl ?_
      exact M.fin (M.up HB)
    · rw [if_neg c4] at H
      have c4b0 : decide (a1 < 0) = false := decide_eq_false c4
      clear c4
      by_cases c10 : a1 > (wrap64 ((a0_0.size : Int) - a0_1))
      · rw [if_pos c10] at H
        have c10b0 : decide ((wrap64 ((a0_0.size : Int) - a0_1)) < a1) = true := decide_eq_true c10
        clear c10
        simp only [Option.some.injEq, Prod.mk.injEq] at H
        obtain ⟨rfl, rfl, rfl, rfl⟩ := H
        go_enter Try.func38, Try.ntmps38
        go_wp2_with (first | ((with_reducible refine gate_dst (N := 2) rfl ?_); (try (refine gate_guard (by rfl) ?_; dsimp only)); refine box_event ?hg (N := 2) ?hd (cs := #[.string a0_0, .int .i64 a0_1, .int .i64 a0_2]) (t := 57) ?hr ?_; (case hd => rfl); (case hg => rfl); (case hr => first | (go_simp; done) | (go_simp; rfl)); intro zdB hg w11 hbox hb; have n0_ := M.upS HB hb; have n1_ := Aside0.mk (hbox); have n2_ := M.upG HB hg; have n3_ := M.upG HB hg; clear HB; have HB := n0_; have zdC := n1_; have zdD := n2_; have zdE := n3_; clear n0_ n1_ n2_ n3_; clear hb hbox hg) | ((with_reducible refine gate_dst (N := 4) rfl ?_); (try (refine gate_guard (by rfl) ?_; dsimp only)); refine box_event ?hg (N := 4) ?hd (cs := #[.string (⟨#[]⟩ : ByteArray), .int .i64 0, .int .i64 0]) (t := 57) ?hr ?_; (case hd => rfl); (case hg => rfl); (case hr => first | (go_simp; done) | (go_simp; rfl)); intro zdF hg w12 hbox hb; have n0_ := M.bkB zdC hb; have n1_ := M.upS HB hb; have n2_ := Aside0.mk (hbox); have n3_ := M.upG HB hg; have n4_ := M.upG HB hg; have n5_ := M.bkL zdC hg; have n6_ := M.bkG zdC hg; clear zdC HB; have zdC := n0_; have HB := n1_; have zdG := n2_; have zdH := n3_; have zdI := n4_; have zdJ := n5_; have zdK := n6_; clear n0_ n1_ n2_ n3_ n4_ n5_ n6_; clear hb hbox hg; have zdZ := zdJ.out; have zd0 := zdK.out; obtain ⟨zd1, zd2, zd3⟩ := M.bc3 (w := w12) (a := .string a0_0) (b := .int .i64 a0_1) (c := .int .i64 a0_2) zdC.out; obtain ⟨zd4, zd5, zd6⟩ := M.bf3 zdC; obtain ⟨zd7, zd8, zd9⟩ := M.bc3 (w := w12) (a := .string (⟨#[]⟩ : ByteArray)) (b := .int .i64 0) (c := .int .i64 0) zdG.out; obtain ⟨zea, zeb, zec⟩ := M.bf3 zdG))
        refine bodyPost_ret (results_ct rfl _ _ zdF 57 #[.string a0_0, .int .i64 a0_1, .int .i64 3] (0, 0) _ rfl (by (with_reducible repeat (first | refine blk_drewN ?_ _ | refine blk_drew ?_ | refine blk_alloc ?_ _)); refine blk_put (cs := #[.string a0_0, .int .i64 a0_1, .int .i64 0]) ?_ 2 _ rfl; (with_reducible repeat (first | refine blk_drewN ?_ _ | refine blk_drew ?_ | refine blk_alloc ?_ _)); refine blk_put (cs := #[.string a0_0, .int .i64 0, .int .i64 0]) ?_ 1 _ rfl; (with_reducible repeat (first | refine blk_drewN ?_ _ | refine blk_drew ?_ | refine blk_alloc ?_ _)); refine blk_put (cs := #[.string (⟨#[]⟩ : ByteArray), .int .i64 0, .int .i64 0]) ?_ 0 _ rfl; (with_reducible repeat (first | refine blk_drewN ?_ _ | refine blk_drew ?_ | refine blk_alloc ?_ _)); refine blk_far ?_ zdK.out _; (with_reducible repeat (first | refine blk_drewN ?_ _ | refine blk_drew ?_ | refine blk_alloc ?_ _)); exact zdG.out) Try.underlying57 rfl (by kernel_rfl)) rfl ?_
        exact M.fin (M.up HB)
      · rw [if_neg c10] at H
        have c10b0 : decide ((wrap64 ((a0_0.size : Int) - a0_1)) < a1) = false := decide_eq_false c10
        clear c10
        by_cases c16 : 0 ≤ a0_1
        · rw [if_pos c16] at H
          have c16b0 := eq_true c16
          have c16b1 : decide (0 ≤ a0_1) = true := decide_eq_true c16
          clear c16
          by_cases c17 : a0_1 ≤ (wrap64 (a0_1 + a1))
          · rw [if_pos c17] at H
            have c17b0 := eq_true c17
            have c17b1 : decide (a0_1 ≤ (wrap64 (a0_1 + a1))) = true := decide_eq_true c17
            by_cases c18 : (wrap64 (a0_1 + a1)) ≤ (a0_0.size : Int)
            · rw [if_pos c18] at H
              have c18b0 := eq_true c18
              have c18b1 : decide ((wrap64 (a0_1 + a1)) ≤ (a0_0.size : Int)) = true := decide_eq_true c18
              simp only [Option.some.injEq, Prod.mk.injEq] at H
              obtain ⟨rfl, rfl, rfl, rfl⟩ := H
              go_enter Try.func38, Try.ntmps38
              go_wp2_with (first | ((with_reducible refine gate_dst (N := 2) rfl ?_); (try (refine gate_guard (by rfl) ?_; dsimp only)); refine box_event ?hg (N := 2) ?hd (cs := #[.string a0_0, .int .i64 a0_1, .int .i64 a0_2]) (t := 57) ?hr ?_; (case hd => rfl); (case hg => rfl); (case hr => first | (go_simp; done) | (go_simp; rfl)); intro zdB hg w19 hbox hb; have n0_ := M.upS HB hb; have n1_ := Aside0.mk (hbox); have n2_ := M.upG HB hg; have n3_ := M.upG HB hg; clear HB; have HB := n0_; have zdC := n1_; have zdD := n2_; have zdE := n3_; clear n0_ n1_ n2_ n3_; clear hb hbox hg) | ((with_reducible refine gate_dst (N := 4) rfl ?_); (try (refine gate_guard (by rfl) ?_; dsimp only)); refine box_event ?hg (N := 4) ?hd (cs := #[.string (⟨#[]⟩ : ByteArray), .int .i64 0, .int .i64 0]) (t := 57) ?hr ?_; (case hd => rfl); (case hg => rfl); (case hr => first | (go_simp; done) | (go_simp; rfl)); intro zdF hg w20 hbox hb; have n0_ := M.bkB zdC hb; have n1_ := M.upS HB hb; have n2_ := Aside0.mk (hbox); have n3_ := M.upG HB hg; have n4_ := M.upG HB hg; have n5_ := M.bkL zdC hg; have n6_ := M.bkG zdC hg; clear zdC HB; have zdC := n0_; have HB := n1_; have zdG := n2_; have zdH := n3_; have zdI := n4_; have zdJ := n5_; have zdK := n6_; clear n0_ n1_ n2_ n3_ n4_ n5_ n6_; clear hb hbox hg; have zaV := zdJ.out; have zaW := zdK.out; obtain ⟨zaX, zaY, zaZ⟩ := M.bc3 (w := w20) (a := .string a0_0) (b := .int .i64 a0_1) (c := .int .i64 a0_2) zdC.out; obtain ⟨za0, za1, za2⟩ := M.bf3 zdC; obtain ⟨zed, zee, zef⟩ := M.bc3 (w := w20) (a := .string (⟨#[]⟩ : ByteArray)) (b := .int .i64 0) (c := .int .i64 0) zdG.out; obtain ⟨zeg, zeh, zei⟩ := M.bf3 zdG))
              refine bodyPost_ret (results_ct rfl _ _ zdF 57 #[.string a0_0, .int .i64 (wrap64 (a0_1 + a1)), .int .i64 a0_2] (0, 0) _ rfl (by (with_reducible repeat (first | refine blk_drewN ?_ _ | refine blk_drew ?_ | refine blk_alloc ?_ _)); refine blk_put (cs := #[.string a0_0, .int .i64 (wrap64 (a0_1 + a1)), .int .i64 0]) ?_ 2 _ rfl; (with_reducible repeat (first | refine blk_drewN ?_ _ | refine blk_drew ?_ | refine blk_alloc ?_ _)); refine blk_put (cs := #[.string a0_0, .int .i64 0, .int .i64 0]) ?_ 1 _ rfl; (with_reducible repeat (first | refine blk_drewN ?_ _ | refine blk_drew ?_ | refine blk_alloc ?_ _)); refine blk_put (cs := #[.string (⟨#[]⟩ : ByteArray), .int .i64 0, .int .i64 0]) ?_ 0 _ rfl; (with_reducible repeat (first | refine blk_drewN ?_ _ | refine blk_drew ?_ | refine blk_alloc ?_ _)); refine blk_far ?_ zdK.out _; (with_reducible repeat (first | refine blk_drewN ?_ _ | refine blk_drew ?_ | refine blk_alloc ?_ _)); exact zdG.out) Try.underlying57 rfl (by kernel_rfl)) rfl ?_
              exact M.fin (M.up HB)
            · rw [if_neg c18] at H
              exact absurd H (by simp)
          · rw [if_neg c17] at H
            exact absurd H (by simp)
        · rw [if_neg c16] at H
          exact absurd H (by simp)
  · rw [if_neg c3] at H
    have c3b0 : (a0_2 == 0) = false := beq_eq_false_iff_ne.mpr c3
    have c3b1 : (a0_2 != 0) = true := bne_iff_ne.mpr c3
    simp only [Option.some.injEq, Prod.mk.injEq] at H
    obtain ⟨rfl, rfl, rfl, rfl⟩ := H
    go_enter Try.func38, Try.ntmps38
    go_wp2_with (first | ((with_reducible refine gate_dst (N := 2) rfl ?_); (try (refine gate_guard (by rfl) ?_; dsimp only)); refine box_event ?hg (N := 2) ?hd (cs := #[.string a0_0, .int .i64 a0_1, .int .i64 a0_2]) (t := 57) ?hr ?_; (case hd => rfl); (case hg => rfl); (case hr => first | (go_simp; done) | (go_simp; rfl)); intro zdB hg w24 hbox hb; have n0_ := M.upS HB hb; have n1_ := Aside0.mk (hbox); have n2_ := M.upG HB hg; have n3_ := M.upG HB hg; clear HB; have HB := n0_; have zdC := n1_; have zdD := n2_; have zdE := n3_; clear n0_ n1_ n2_ n3_; clear hb hbox hg) | ((with_reducible refine gate_dst (N := 4) rfl ?_); (try (refine gate_guard (by rfl) ?_; dsimp only)); refine box_event ?hg (N := 4) ?hd (cs := #[.string (⟨#[]⟩ : ByteArray), .int .i64 0, .int .i64 0]) (t := 57) ?hr ?_; (case hd => rfl); (case hg => rfl); (case hr => first | (go_simp; done) | (go_simp; rfl)); intro zdF hg w25 hbox hb; have n0_ := M.bkB zdC hb; have n1_ := M.upS HB hb; have n2_ := Aside0.mk (hbox); have n3_ := M.upG HB hg; have n4_ := M.upG HB hg; have n5_ := M.bkL zdC hg; have n6_ := M.bkG zdC hg; clear zdC HB; have zdC := n0_; have HB := n1_; have zdG := n2_; have zdH := n3_; have zdI := n4_; have zdJ := n5_; have zdK := n6_; clear n0_ n1_ n2_ n3_ n4_ n5_ n6_; clear hb hbox hg; have zej := zdJ.out; have zek := zdK.out; obtain ⟨zel, zem, zen⟩ := M.bc3 (w := w25) (a := .string a0_0) (b := .int .i64 a0_1) (c := .int .i64 a0_2) zdC.out; obtain ⟨zeo, zep, zeq⟩ := M.bf3 zdC; obtain ⟨zer, zes, zet⟩ := M.bc3 (w := w25) (a := .string (⟨#[]⟩ : ByteArray)) (b := .int .i64 0) (c := .int .i64 0) zdG.out; obtain ⟨zeu, zev, zew⟩ := M.bf3 zdG))
    refine bodyPost_ret (results_ct rfl _ _ zdF 57 #[.string a0_0, .int .i64 a0_1, .int .i64 a0_2] (0, 0) _ rfl (by (with_reducible repeat (first | refine blk_drewN ?_ _ | refine blk_drew ?_ | refine blk_alloc ?_ _)); refine blk_put (cs := #[.string a0_0, .int .i64 a0_1, .int .i64 0]) ?_ 2 _ rfl; (with_reducible repeat (first | refine blk_drewN ?_ _ | refine blk_drew ?_ | refine blk_alloc ?_ _)); refine blk_put (cs := #[.string a0_0, .int .i64 0, .int .i64 0]) ?_ 1 _ rfl; (with_reducible repeat (first | refine blk_drewN ?_ _ | refine blk_drew ?_ | refine blk_alloc ?_ _)); refine blk_put (cs := #[.string (⟨#[]⟩ : ByteArray), .int .i64 0, .int .i64 0]) ?_ 0 _ rfl; (with_reducible repeat (first | refine blk_drewN ?_ _ | refine blk_drew ?_ | refine blk_alloc ?_ _)); exact zdG.out) Try.underlying57 rfl (by kernel_rfl)) rfl ?_
    exact M.fin (M.up HB)

-- this session's own plain form
def pleachref04_fix.f (a0_0 : ByteArray) (a0_1 : Int) (a0_2 : Int) (a1 : Int) : Option (ByteArray × Int × Int × ByteArray) :=
  if M.sok a0_0 a0_1 ∧ -9223372036854775808 ≤ a1 ∧ a1 ≤ 9223372036854775807 then some (a0_0, (M.xfix a0_0 a0_1 a0_2 a1).2.1, (M.xfix a0_0 a0_1 a0_2 a1).2.2, (M.xfix a0_0 a0_1 a0_2 a1).1) else none
theorem pleachref04_fix.ev (s : ByteArray) (p er n : Int) (r : ByteArray × Int × Int × ByteArray) (h : pleachref04_fix.f s p er n = some r) : pleachref04_fix_p.f s p er n = some r := by
  unfold pleachref04_fix.f at h
  split at h
  case isFalse => cases h
  case isTrue hh =>
    obtain ⟨hs, hn, hn'⟩ := hh
    unfold pleachref04_fix_p.f
    rw [← h]
    unfold M.xfix
    by_cases he : er = 0
    · subst he
      have hc := M.fix_code s hs hn hn'
      simp only [if_true] at hc ⊢
      generalize M.sfix s p n = q at hc ⊢
      revert hc
      (repeat' split) <;> intro hc <;> first | (cases hc; rfl) | (cases hc; done)
    · simp only [if_neg he]; rfl
theorem pleachref04_fix.calls (a0_0 : ByteArray) (a0_1 : Int) (a0_2 : Int) (a1 : Int) (r1 : ByteArray) (r2 : Int) (r3 : Int) (r4 : ByteArray) (w : World) (h : pleachref04_fix.f a0_0 a0_1 a0_2 a1 = some (r1, r2, r3, r4)) :
    Calls Try.prog 38 #[.agg #[.string a0_0, .int .i64 a0_1, .int .i64 a0_2], .int .i64 a1] w fun e w' => e = .returned (.tuple #[.agg #[.string r1, .int .i64 r2, .int .i64 r3], .string r4]) ∧ Below w.heap.size w w' := by
  exact pleachref04_fix_p.calls (w := w) (h := pleachref04_fix.ev _ _ _ _ _ h)

end Go.Proofs.Ytccppdpmfegndaa.EChunkTakes
