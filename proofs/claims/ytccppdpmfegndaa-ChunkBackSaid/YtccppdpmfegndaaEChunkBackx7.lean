-- Written by this session's own program (wip/tools/ext.py) for this claim; Lean checks it.
import Derived.Test.YtccppdpmfegndaaEChunkBackx0
import Derived.Test.YtccppdpmfegndaaEChunkBackx2
import Derived.Test.YtccppdpmfegndaaEChunkBackx3
import Derived.Test.YtccppdpmfegndaaEChunkBackx5
import Derived.Test.YtccppdpmfegndaaEChunkBackx6
namespace Go.Proofs.Ytccppdpmfegndaa.EChunkBack
open Go.RowKit Go.Proofs.YtccppdpmfegndaaW.PrintWords Go.Proofs.YtccppdpmfegndaaW.PrintLast Go.Proofs.YtccppdpmfegndaaW.PrintMore
attribute [local go_sem] max2_int min2_int max_two min_two max_three min_three max_four min_four   -- for this text's walks alone
set_option linter.unusedVariables false
set_option linter.unusedSimpArgs false

/-! ### scan_Scan_End: function 23 -/
def scan_Scan_End.f (s0_0 : ByteArray) (s0_1 : Int) (s0_2 : Int) (s0_3 : Bool) : Option (Int × ByteArray × Int × Int × Bool) :=
  if s0_3 = true then (if s0_2 = 0 ∧ s0_1 < s0_0.size then some (3, s0_0, s0_1, 3, true) else some (s0_2, s0_0, s0_1, s0_2, true)) else some (1, s0_0, s0_1, s0_2, false)

theorem scan_Scan_End.err1 (g : Nat) (s : ByteArray) (p er : Int) (w0 w : World) (hI : IsS66 w0 w g s p er true) :
    Calls Try.prog 33 #[.pointer (some ⟨g, 0, none⟩)] w fun e w' => e = .returned (.int .i64 er) ∧ w' = w := by
  have h2 := cellS66_2 hI.1
  have h3 := cellS66_3 hI.1
  clear hI
  go_enter Try.func33, Try.ntmps33
  go_wp2
  go_ret
  exact ⟨rfl, rfl⟩
theorem scan_Scan_End.err0 (g : Nat) (s : ByteArray) (p er : Int) (w0 w : World) (hI : IsS66 w0 w g s p er false) :
    Calls Try.prog 33 #[.pointer (some ⟨g, 0, none⟩)] w fun e w' => e = .returned (.int .i64 1) ∧ w' = w := by
  have h2 := cellS66_2 hI.1
  have h3 := cellS66_3 hI.1
  clear hI
  go_enter Try.func33, Try.ntmps33
  go_wp2
  go_ret
  exact ⟨rfl, rfl⟩

set_option maxHeartbeats 1000000 in
theorem scan_Scan_End.off (g : Nat) (s : ByteArray) (p er : Int) (w0 w : World) (hI : IsS66 w0 w g s p er true) (hB : Below w0.heap.size w0 w) (he : er ≠ 0) :
    Calls Try.prog 23 #[.pointer (some ⟨g, 0, none⟩)] w fun e w' => e = .returned (.int .i64 er) ∧ IsS66 w0 w' g s p er true ∧ Below w0.heap.size w0 w' ∧ KeepBut w w' g none := by
  have hb0 : (er == 0) = false := by simpa using he
  have HI := Aside0.mk hI
  have HB := Aside0.mk hB
  clear he hI hB
  go_enter Try.func23, Try.ntmps23
  go_wp2
  go_quiet ((go_at_call 33; exact Calls.quiet_of_same (scan_Scan_End.err1 g s p er w0 _ HI.out)))
  go_wp2_with (go_at_call 33; refine (scan_Scan_Err.calls g s p er true er s p er true w0 _ (IsS66.drewN HI.out _) (pw_below_drewN HB.out _) rfl).mono ?_; rintro e w2 ⟨rfl, hi2, hb2, hk2⟩)
  go_ret
  exact ⟨rfl, hi2, hb2, KeepBut.trans (keep_drewN (KeepBut.refl w g none) _) hk2 (.inl rfl)⟩

set_option maxHeartbeats 1000000 in
theorem scan_Scan_End.none_ (g : Nat) (s : ByteArray) (p er : Int) (w0 w : World) (hI : IsS66 w0 w g s p er false) (hB : Below w0.heap.size w0 w) :
    Calls Try.prog 23 #[.pointer (some ⟨g, 0, none⟩)] w fun e w' => e = .returned (.int .i64 1) ∧ IsS66 w0 w' g s p er false ∧ Below w0.heap.size w0 w' ∧ KeepBut w w' g none := by
  have HI := Aside0.mk hI
  have HB := Aside0.mk hB
  clear hI hB
  go_enter Try.func23, Try.ntmps23
  go_wp2
  go_quiet ((go_at_call 33; exact Calls.quiet_of_same (scan_Scan_End.err0 g s p er w0 _ HI.out)))
  go_wp2_with (go_at_call 33; refine (scan_Scan_Err.calls g s p er false 1 s p er false w0 _ (IsS66.drewN HI.out _) (pw_below_drewN HB.out _) rfl).mono ?_; rintro e w2 ⟨rfl, hi2, hb2, hk2⟩)
  go_ret
  exact ⟨rfl, hi2, hb2, KeepBut.trans (keep_drewN (KeepBut.refl w g none) _) hk2 (.inl rfl)⟩

set_option maxHeartbeats 1000000 in
theorem scan_Scan_End.more (g : Nat) (s : ByteArray) (p : Int) (w0 w : World) (hI : IsS66 w0 w g s p 0 true) (hB : Below w0.heap.size w0 w) (hp : p < s.size) :
    Calls Try.prog 23 #[.pointer (some ⟨g, 0, none⟩)] w fun e w' => e = .returned (.int .i64 3) ∧ IsS66 w0 w' g s p 3 true ∧ Below w0.heap.size w0 w' ∧ KeepBut w w' g none := by
  have ht : decide (p < (s.size : Int)) = true := decide_eq_true hp
  have hc0 := cellS66_0 hI.1
  have hc1 := cellS66_1 hI.1
  have hc2 := cellS66_2 hI.1
  have hf2 := blk_frozen hI.1 2
  have HI := Aside0.mk hI
  have HB := Aside0.mk hB
  clear hI hB hp
  go_enter Try.func23, Try.ntmps23
  go_wp2
  go_quiet ((go_at_call 33; exact Calls.quiet_of_same (scan_Scan_End.err1 g s p 0 w0 _ HI.out)))
  go_wp2_with (go_at_call 33; refine (scan_Scan_Err.calls g s p 3 true 3 s p 3 true w0 _ (IsS66.set_2 (IsS66.drewN HI.out _) 3) (below_set (pw_below_drewN HB.out _) (IsS66.ge HI.out)) rfl).mono ?_; rintro e w2 ⟨rfl, hi2, hb2, hk2⟩)
  go_ret
  exact ⟨rfl, hi2, hb2, KeepBut.trans (KeepBut.set_ (keep_drewN (KeepBut.refl w g none) _) _ _) hk2 (.inl rfl)⟩

set_option maxHeartbeats 1000000 in
theorem scan_Scan_End.done_ (g : Nat) (s : ByteArray) (p : Int) (w0 w : World) (hI : IsS66 w0 w g s p 0 true) (hB : Below w0.heap.size w0 w) (hp : ¬ p < s.size) :
    Calls Try.prog 23 #[.pointer (some ⟨g, 0, none⟩)] w fun e w' => e = .returned (.int .i64 0) ∧ IsS66 w0 w' g s p 0 true ∧ Below w0.heap.size w0 w' ∧ KeepBut w w' g none := by
  have ht : decide (p < (s.size : Int)) = false := decide_eq_false hp
  have hc0 := cellS66_0 hI.1
  have hc1 := cellS66_1 hI.1
  have HI := Aside0.mk hI
  have HB := Aside0.mk hB
  clear hI hB hp
  go_enter Try.func23, Try.ntmps23
  go_wp2
  go_quiet ((go_at_call 33; exact Calls.quiet_of_same (scan_Scan_End.err1 g s p 0 w0 _ HI.out)))
  go_wp2_with (go_at_call 33; refine (scan_Scan_Err.calls g s p 0 true 0 s p 0 true w0 _ (IsS66.drewN HI.out _) (pw_below_drewN HB.out _) rfl).mono ?_; rintro e w2 ⟨rfl, hi2, hb2, hk2⟩)
  go_ret
  exact ⟨rfl, hi2, hb2, KeepBut.trans (keep_drewN (KeepBut.refl w g none) _) hk2 (.inl rfl)⟩

theorem scan_Scan_End.calls (g : Nat) (s0_0 : ByteArray) (s0_1 : Int) (s0_2 : Int) (s0_3 : Bool) (r1 : Int) (r2 : ByteArray) (r3 : Int) (r4 : Int) (r5 : Bool) (w0 w : World) (hI : IsS66 w0 w g s0_0 s0_1 s0_2 s0_3) (hB : Below w0.heap.size w0 w) (h : scan_Scan_End.f s0_0 s0_1 s0_2 s0_3 = some (r1, r2, r3, r4, r5)) :
    Calls Try.prog 23 #[.pointer (some ⟨g, 0, none⟩)] w fun e w' => e = .returned (.int .i64 r1) ∧ IsS66 w0 w' g r2 r3 r4 r5 ∧ Below w0.heap.size w0 w' ∧ KeepBut w w' g none := by
  unfold scan_Scan_End.f at h
  cases s0_3 with
  | false =>
    rw [if_neg (by simp)] at h
    simp only [Option.some.injEq, Prod.mk.injEq] at h
    obtain ⟨rfl, rfl, rfl, rfl, rfl⟩ := h
    exact scan_Scan_End.none_ g _ _ _ w0 w hI hB
  | true =>
    rw [if_pos rfl] at h
    by_cases h0 : s0_2 = 0
    · subst h0
      by_cases hp : s0_1 < s0_0.size
      · rw [if_pos ⟨rfl, hp⟩] at h
        simp only [Option.some.injEq, Prod.mk.injEq] at h
        obtain ⟨rfl, rfl, rfl, rfl, rfl⟩ := h
        exact scan_Scan_End.more g _ _ w0 w hI hB hp
      · rw [if_neg (fun z => hp z.2)] at h
        simp only [Option.some.injEq, Prod.mk.injEq] at h
        obtain ⟨rfl, rfl, rfl, rfl, rfl⟩ := h
        exact scan_Scan_End.done_ g _ _ w0 w hI hB hp
    · rw [if_neg (fun z => h0 z.1)] at h
      simp only [Option.some.injEq, Prod.mk.injEq] at h
      obtain ⟨rfl, rfl, rfl, rfl, rfl⟩ := h
      exact scan_Scan_End.off g _ _ _ w0 w hI hB h0
theorem scan_Scan_End.eq (s : ByteArray) (p er : Int) : scan_Scan_End.f s p er true = some (M.xend s p er, s, p, M.xend s p er, true) := by
  unfold scan_Scan_End.f M.xend
  rw [if_pos rfl]
  by_cases hc : er = 0 ∧ p < s.size
  · simp only [if_pos hc]
  · simp only [if_neg hc]

/-! ### chunk_Take_p: function 15 -/
mutual
def chunk_Take_p.j0 : Nat → ByteArray → Int → Int → Bool → Int → Option (Int × (List (S29)) × List Int × Int)
  | 0, _, _, _, _, _ => none
  | k + 1, x175000, x175001, x175002, x175003, x176000 => (scan_Scan_Num.f x175000 x175001 x175002 x175003 8).bind fun bt186 => (chunk_Take_p.l0 k bt186.1 0 bt186.2.1 bt186.2.2.1 bt186.2.2.2.1 bt186.2.2.2.2 x176000 ([] : List (S29)) ([] : List Int))
def chunk_Take_p.l0 : Nat → Int → Int → ByteArray → Int → Int → Bool → Int → List (S29) → List Int → Option (Int × (List (S29)) × List Int × Int)
  | 0, _, _, _, _, _, _, _, _, _ => none
  | k + 1, x24, x25, x175000, x175001, x175002, x175003, x176000, x176001, x176002 => if x25 < x24 then ((scan_Scan_Text.f x175000 x175001 x175002 x175003 64).bind fun bt191 => (if x176000 > 0 then ((scan_Scan_Fix.f bt191.2.1 bt191.2.2.1 bt191.2.2.2.1 bt191.2.2.2.2 32).bind fun bt197 => ((scan_Scan_Num.f bt197.2.1 bt197.2.2.1 bt197.2.2.2.1 bt197.2.2.2.2 2147483648).bind fun bt202 => (if x176002.length < 17592186044416 then (if x176001.length < 4398046511104 then (chunk_Take_p.l0 k x24 (wrap64 (x25 + 1)) bt202.2.1 bt202.2.2.1 bt202.2.2.2.1 bt202.2.2.2.2 x176000 (x176001 ++ [(⟨bt191.1, bt197.1⟩ : S29)]) (x176002 ++ [bt202.1])) else (none)) else (none)))) else ((scan_Scan_Text.f bt191.2.1 bt191.2.2.1 bt191.2.2.2.1 bt191.2.2.2.2 2048).bind fun bt213 => (if x176001.length < 4398046511104 then (chunk_Take_p.l0 k x24 (wrap64 (x25 + 1)) bt213.2.1 bt213.2.2.1 bt213.2.2.2.1 bt213.2.2.2.2 x176000 (x176001 ++ [(⟨bt191.1, bt213.1⟩ : S29)]) x176002) else (none))))) else ((scan_Scan_End.f x175000 x175001 x175002 x175003).bind fun bt221 => (if bt221.1 = 0 then ((chunk_Check.f x176000 x176001 x176002).bind fun t226 => (if t226 = 0 then (some (x176000, x176001, x176002, 0)) else (some (0, ([] : List (S29)), ([] : List Int), 3)))) else (some (0, ([] : List (S29)), ([] : List Int), 3))))
end
def chunk_Take_p.f (k : Nat) (a0 : ByteArray) : Option (Int × (List (S29)) × List Int × Int) := (scan_New.f a0).bind fun bt170 => ((scan_Scan_Byte.f bt170.1 bt170.2.1 bt170.2.2.1 bt170.2.2.2).bind fun bt176 => (if bt176.1 = 76 then (chunk_Take_p.j0 k bt176.2.1 bt176.2.2.1 bt176.2.2.2.1 bt176.2.2.2.2 0) else (if bt176.1 = 73 then ((scan_Scan_Num.f bt176.2.1 bt176.2.2.1 bt176.2.2.2.1 bt176.2.2.2.2 40).bind fun bt181 => (if bt181.1 = 0 then (some (0, ([] : List (S29)), ([] : List Int), 3)) else (chunk_Take_p.j0 k bt181.2.1 bt181.2.2.1 bt181.2.2.2.1 bt181.2.2.2.2 bt181.1))) else (some (0, ([] : List (S29)), ([] : List Int), 3)))))
theorem chunk_Take_p.mono_l : ∀ k, (∀ y0 y1 y2 y3 y4, LeO (chunk_Take_p.j0 k y0 y1 y2 y3 y4) (chunk_Take_p.j0 (k + 1) y0 y1 y2 y3 y4)) ∧ (∀ y0 y1 y2 y3 y4 y5 y6 y7 y8, LeO (chunk_Take_p.l0 k y0 y1 y2 y3 y4 y5 y6 y7 y8) (chunk_Take_p.l0 (k + 1) y0 y1 y2 y3 y4 y5 y6 y7 y8))
  | 0 => ⟨fun _ _ _ _ _ r h => by simp [chunk_Take_p.j0] at h, fun _ _ _ _ _ _ _ _ _ r h => by simp [chunk_Take_p.l0] at h⟩
  | k + 1 => by
    obtain ⟨ih0, ih1⟩ := chunk_Take_p.mono_l k
    refine ⟨?_, ?_⟩
    · intro y0 y1 y2 y3 y4
      unfold chunk_Take_p.j0
      repeat' first
      | (with_reducible exact ih0 _ _ _ _ _)
      | (with_reducible exact ih1 _ _ _ _ _ _ _ _ _)
      | (with_reducible exact LeO.refl _)
      | (with_reducible exact LeO.none _)
      | (with_reducible refine LeO.ite ?_ ?_)
      | (with_reducible refine LeO.bind ?_ (fun _ => ?_))
      | exact ih0 _ _ _ _ _
      | exact ih1 _ _ _ _ _ _ _ _ _
      | exact LeO.none _
      | refine LeO.ite ?_ ?_
      | refine LeO.bind ?_ (fun _ => ?_)
    · intro y0 y1 y2 y3 y4 y5 y6 y7 y8
      unfold chunk_Take_p.l0
      repeat' first
      | (with_reducible exact ih0 _ _ _ _ _)
      | (with_reducible exact ih1 _ _ _ _ _ _ _ _ _)
      | (with_reducible exact LeO.refl _)
      | (with_reducible exact LeO.none _)
      | (with_reducible refine LeO.ite ?_ ?_)
      | (with_reducible refine LeO.bind ?_ (fun _ => ?_))
      | exact ih0 _ _ _ _ _
      | exact ih1 _ _ _ _ _ _ _ _ _
      | exact LeO.none _
      | refine LeO.ite ?_ ?_
      | refine LeO.bind ?_ (fun _ => ?_)
theorem chunk_Take_p.mono : ∀ a0 k, LeO (chunk_Take_p.f k a0) (chunk_Take_p.f (k + 1) a0) := by
  intro a0 k
  obtain ⟨ih0, ih1⟩ := chunk_Take_p.mono_l k
  unfold chunk_Take_p.f
  repeat' first
      | (with_reducible exact ih0 _ _ _ _ _)
      | (with_reducible exact ih1 _ _ _ _ _ _ _ _ _)
      | (with_reducible exact LeO.refl _)
      | (with_reducible exact LeO.none _)
      | (with_reducible refine LeO.ite ?_ ?_)
      | (with_reducible refine LeO.bind ?_ (fun _ => ?_))
      | exact ih0 _ _ _ _ _
      | exact ih1 _ _ _ _ _ _ _ _ _
      | exact LeO.none _
      | refine LeO.ite ?_ ?_
      | refine LeO.bind ?_ (fun _ => ?_)
def chunk_Take_p.T15 : Bool × List (List Nat × List Nat) := (true, [([], []), ([0], [0]), ([], []), ([2], [2]), ([3], [3]), ([1, 4, 3], [1, 4]), ([0, 1, 2, 3, 4, 5], []), ([6, 5, 5, 0, 1, 2, 3, 4, 5], [5, 6])])
def chunk_Take_p.B15 : List Nat := [0, 1, 0, 4, 12, 31, 63, 127]
theorem chunk_Take_p.tab15 : rtab .any (opsOf Try.f15 15) = chunk_Take_p.T15 := by kernel_rfl
theorem chunk_Take_p.bits15 : waitsOk chunk_Take_p.T15.2 chunk_Take_p.B15 = true := by kernel_rfl
set_option maxHeartbeats 8000000 in
set_option maxRecDepth 100000 in
theorem chunk_Take_p.calls (k : Nat) (a0 : ByteArray) (r1 : Int) (r2 : List (S29)) (r3 : List Int) (r4 : Int) (w : World) (h : chunk_Take_p.f k a0 = some (r1, r2, r3, r4)) :
    Calls Try.prog 15 #[.string a0] w fun e w' => ∃ v1_ v2_ : Value, e = .returned (.tuple #[.agg #[.int .i64 r1, v1_, v2_], .int .i64 r4]) ∧ Kd.R k29 29 w' w.heap.size (fun _ => True) v1_ r2 ∧ Kd.R (Kd.int .i64) 3 w' w.heap.size (fun _ => True) v2_ r3 ∧ Below w.heap.size w w' := by
  have hu25 := Try.underlying25
  have hu29 := Try.underlying29
  have HB := Aside0.mk (Below.refl w.heap.size w)
  have H : ((scan_New.f a0).bind fun bt170 => ((scan_Scan_Byte.f bt170.1 bt170.2.1 bt170.2.2.1 bt170.2.2.2).bind fun bt176 => (if bt176.1 = 76 then (chunk_Take_p.j0 k bt176.2.1 bt176.2.2.1 bt176.2.2.2.1 bt176.2.2.2.2 0) else (if bt176.1 = 73 then ((scan_Scan_Num.f bt176.2.1 bt176.2.2.1 bt176.2.2.2.1 bt176.2.2.2.2 40).bind fun bt181 => (if bt181.1 = 0 then (some (0, ([] : List (S29)), ([] : List Int), 3)) else (chunk_Take_p.j0 k bt181.2.1 bt181.2.2.1 bt181.2.2.2.1 bt181.2.2.2.2 bt181.1))) else (some (0, ([] : List (S29)), ([] : List Int), 3)))))) = some (r1, r2, r3, r4) := h
  clear h
  replace H := Option.bind_eq_some_iff.mp H
  obtain ⟨⟨t170, t171, t172, t173⟩, A20, H⟩ := H
  replace H : ((scan_Scan_Byte.f t170 t171 t172 t173).bind fun bt176 => (if bt176.1 = 76 then (chunk_Take_p.j0 k bt176.2.1 bt176.2.2.1 bt176.2.2.2.1 bt176.2.2.2.2 0) else (if bt176.1 = 73 then ((scan_Scan_Num.f bt176.2.1 bt176.2.2.1 bt176.2.2.2.1 bt176.2.2.2.2 40).bind fun bt181 => (if bt181.1 = 0 then (some (0, ([] : List (S29)), ([] : List Int), 3)) else (chunk_Take_p.j0 k bt181.2.1 bt181.2.2.1 bt181.2.2.2.1 bt181.2.2.2.2 bt181.1))) else (some (0, ([] : List (S29)), ([] : List Int), 3))))) = some (r1, r2, r3, r4) := H
  have A2 := Aside0.mk A20
  clear A20
  replace H := Option.bind_eq_some_iff.mp H
  obtain ⟨⟨t176, t177, t178, t179, t180⟩, A30, H⟩ := H
  replace H : (if t176 = 76 then (chunk_Take_p.j0 k t177 t178 t179 t180 0) else (if t176 = 73 then ((scan_Scan_Num.f t177 t178 t179 t180 40).bind fun bt181 => (if bt181.1 = 0 then (some (0, ([] : List (S29)), ([] : List Int), 3)) else (chunk_Take_p.j0 k bt181.2.1 bt181.2.2.1 bt181.2.2.2.1 bt181.2.2.2.2 bt181.1))) else (some (0, ([] : List (S29)), ([] : List Int), 3)))) = some (r1, r2, r3, r4) := H
  have A3 := Aside0.mk A30
  clear A30
  have HC4 := Aside0.mk H
  clear H
  go_enter Try.func15, Try.ntmps15
  go_upto_block 0 with (first | ((with_reducible refine gate_dst (N := 2) rfl ?_); refine box_event ?hg (N := 2) ?hd (cs := #[.int .i64 0, .slice none 0 0, .slice none 0 0]) (t := 25) ?hr ?_; (case hd => rfl); (case hg => rfl); (case hr => first | (go_simp; done) | (go_simp; rfl)); intro gb169 hg w5 hbox hb; have n0_ := Aside0.mk (below_step (by repeat (first | (with_reducible first | exact HB.out | apply below_alloc | apply pw_below_drewN | apply below_drew1) | exact HB.out)) hb); have n1_ := Aside0.mk (hbox); have n2_ := Aside0.mk ((by rw [hg]; exact (below_size (by repeat (first | (with_reducible first | exact HB.out | apply below_alloc | apply pw_below_drewN | apply below_drew1) | exact HB.out))) : w.heap.size ≤ gb169)); have n3_ := Aside0.mk ((by rw [hg]; exact (below_size (by repeat (first | (with_reducible first | exact HB.out | apply below_alloc | apply pw_below_drewN | apply below_drew1) | exact HB.out))) : w.heap.size ≤ gb169)); clear HB; have HB := n0_; have BK169 := n1_; have GW169 := n2_; have GE169 := n3_; clear n0_ n1_ n2_ n3_; clear hb hbox hg) | ((with_reducible refine gate_callee (f := 18) rfl ?_); refine goesL_ (some 8) rfl rfl Try.func18 (by kernel_rfl) rfl #[.string a0] rfl (by (try simp only [List.map_toArray, List.map_cons, List.map_nil]); first | done | rfl | (simp only [List.length_drop, List.length_take]; rfl)) ?_; (with_reducible refine (scan_New.calls a0 t170 t171 t172 t173 w _ ?side1 A2.out).mono ?_); (case side1 => repeat (first | (with_reducible first | exact HB.out | apply below_alloc | apply pw_below_drewN | apply below_drew1 | refine below_set ?_ GE169.out) | exact HB.out)); rintro e w6 ⟨g174, rfl, hi, hb, hb2⟩; refine ⟨_, rfl, ?_⟩; have n0_ := Aside0.mk (blk_below (g := gb169) (o := .cells #[.int .i64 0, .slice none 0 0, .slice none 0 0] 25 (0, 0)) (by (with_reducible repeat (first | refine blk_drewN ?_ _ | refine blk_drew ?_ | refine blk_alloc ?_ _)); exact BK169.out) hb2); have n1_ := Aside0.mk (hb); have n2_ := Aside0.mk (hi); have n3_ := Aside0.mk (IsS66.ne_blk hi (blk_below (g := gb169) (o := .cells #[.int .i64 0, .slice none 0 0, .slice none 0 0] 25 (0, 0)) (by (with_reducible repeat (first | refine blk_drewN ?_ _ | refine blk_drew ?_ | refine blk_alloc ?_ _)); exact BK169.out) hb2) (by decide)); have n4_ := Aside0.mk (Ne.symm (IsS66.ne_blk hi (blk_below (g := gb169) (o := .cells #[.int .i64 0, .slice none 0 0, .slice none 0 0] 25 (0, 0)) (by (with_reducible repeat (first | refine blk_drewN ?_ _ | refine blk_drew ?_ | refine blk_alloc ?_ _)); exact BK169.out) hb2) (by decide))); clear BK169; clear HB; have BK169 := n0_; have HB := n1_; have HI174 := n2_; have NB174_169 := n3_; have NB169_174 := n4_; clear n0_ n1_ n2_ n3_ n4_; (try clear hb); (try clear hb2); (try clear hk); (try clear hi)) | ((with_reducible refine gate_dst (N := 5) rfl ?_); refine box_event ?hg (N := 5) ?hd (cs := #[.int .i64 0, .slice none 0 0, .slice none 0 0]) (t := 25) ?hr ?_; (case hd => rfl); (case hg => rfl); (case hr => first | (go_simp; done) | (go_simp; rfl)); intro gb175 hg w7 hbox hb; have n0_ := Aside0.mk (blk_below (g := gb169) (o := .cells #[.int .i64 0, .slice none 0 0, .slice none 0 0] 25 (0, 0)) (by (with_reducible repeat (first | refine blk_drewN ?_ _ | refine blk_drew ?_ | refine blk_alloc ?_ _)); exact BK169.out) hb); have n1_ := Aside0.mk (IsS66.below (by repeat (first | (with_reducible first | exact HI174.out | apply IsS66.alloc | apply IsS66.drewN | apply IsS66.drew | apply IsS66.set_0 | apply IsS66.set_1 | apply IsS66.set_2 | apply IsS66.set_3 | refine IsS66.far ?_ NB174_169.out _) | exact HI174.out)) hb); have n2_ := Aside0.mk (below_step (by repeat (first | (with_reducible first | exact HB.out | apply below_alloc | apply pw_below_drewN | apply below_drew1 | refine below_set ?_ (IsS66.ge HI174.out) | refine below_set ?_ GE169.out) | exact HB.out)) hb); have n3_ := Aside0.mk (hbox); have n4_ := Aside0.mk ((by rw [hg]; exact (below_size (by repeat (first | (with_reducible first | exact HB.out | apply below_alloc | apply pw_below_drewN | apply below_drew1 | refine below_set ?_ (IsS66.ge HI174.out) | refine below_set ?_ GE169.out) | exact HB.out))) : w.heap.size ≤ gb175)); have n5_ := Aside0.mk ((by rw [hg]; exact (below_size (by repeat (first | (with_reducible first | exact HB.out | apply below_alloc | apply pw_below_drewN | apply below_drew1 | refine below_set ?_ (IsS66.ge HI174.out) | refine below_set ?_ GE169.out) | exact HB.out))) : w.heap.size ≤ gb175)); have n6_ := Aside0.mk ((by rw [hg]; exact Nat.ne_of_lt (blk_lt (g := gb169) (o := .cells #[.int .i64 0, .slice none 0 0, .slice none 0 0] 25 (0, 0)) (by (with_reducible repeat (first | refine blk_drewN ?_ _ | refine blk_drew ?_ | refine blk_alloc ?_ _)); exact BK169.out)) : gb169 ≠ gb175)); have n7_ := Aside0.mk ((by rw [hg]; exact Nat.ne_of_gt (blk_lt (g := gb169) (o := .cells #[.int .i64 0, .slice none 0 0, .slice none 0 0] 25 (0, 0)) (by (with_reducible repeat (first | refine blk_drewN ?_ _ | refine blk_drew ?_ | refine blk_alloc ?_ _)); exact BK169.out)) : gb175 ≠ gb169)); have n8_ := Aside0.mk ((by rw [hg]; exact Nat.ne_of_lt (IsS66.lt (show IsS66 w _ g174 t170 t171 t172 t173 from by repeat (first | (with_reducible first | exact HI174.out | apply IsS66.alloc | apply IsS66.drewN | apply IsS66.drew | apply IsS66.set_0 | apply IsS66.set_1 | apply IsS66.set_2 | apply IsS66.set_3 | refine IsS66.far ?_ NB174_169.out _) | exact HI174.out))) : g174 ≠ gb175)); have n9_ := Aside0.mk ((by rw [hg]; exact Nat.ne_of_gt (IsS66.lt (show IsS66 w _ g174 t170 t171 t172 t173 from by repeat (first | (with_reducible first | exact HI174.out | apply IsS66.alloc | apply IsS66.drewN | apply IsS66.drew | apply IsS66.set_0 | apply IsS66.set_1 | apply IsS66.set_2 | apply IsS66.set_3 | refine IsS66.far ?_ NB174_169.out _) | exact HI174.out))) : gb175 ≠ g174)); clear BK169; clear HI174; clear HB; have BK169 := n0_; have HI174 := n1_; have HB := n2_; have BK175 := n3_; have GW175 := n4_; have GE175 := n5_; have NB169_175 := n6_; have NB175_169 := n7_; have NB174_175 := n8_; have NB175_174 := n9_; clear n0_ n1_ n2_ n3_ n4_ n5_ n6_ n7_ n8_ n9_; clear hb hbox hg) | ((with_reducible refine gate_callee (f := 19) rfl ?_); refine goesL_ (some 10) rfl rfl Try.func19 (by kernel_rfl) rfl #[.pointer (some ⟨g174, 0, none⟩)] rfl (by (try simp only [List.map_toArray, List.map_cons, List.map_nil]); first | done | rfl | (simp only [List.length_drop, List.length_take]; rfl)) ?_; (with_reducible refine (scan_Scan_Byte.calls g174 t170 t171 t172 t173 t176 t177 t178 t179 t180 w _ ?side1 ?side2 A3.out).mono ?_); (case side1 => repeat (first | (with_reducible first | exact HI174.out | apply IsS66.alloc | apply IsS66.drewN | apply IsS66.drew | apply IsS66.set_0 | apply IsS66.set_1 | apply IsS66.set_2 | apply IsS66.set_3 | refine IsS66.far ?_ NB174_169.out _ | refine IsS66.far ?_ NB174_175.out _) | exact HI174.out)); (case side2 => repeat (first | (with_reducible first | exact HB.out | apply below_alloc | apply pw_below_drewN | apply below_drew1 | refine below_set ?_ (IsS66.ge HI174.out) | refine below_set ?_ GE169.out | refine below_set ?_ GE175.out) | exact HB.out)); rintro e w8 ⟨rfl, hi, hb, hk⟩; refine ⟨_, rfl, ?_⟩; have n0_ := Aside0.mk (KeepBut.blk hk (g' := gb169) (o := .cells #[.int .i64 0, .slice none 0 0, .slice none 0 0] 25 (0, 0)) (by (with_reducible repeat (first | refine blk_drewN ?_ _ | refine blk_drew ?_ | refine blk_alloc ?_ _)); exact BK169.out) NB169_174.out (by simp)); have n1_ := Aside0.mk (KeepBut.blk hk (g' := gb175) (o := .cells #[.int .i64 0, .slice none 0 0, .slice none 0 0] 25 (0, 0)) (by (with_reducible repeat (first | refine blk_drewN ?_ _ | refine blk_drew ?_ | refine blk_alloc ?_ _)); exact BK175.out) NB175_174.out (by simp)); have n2_ := Aside0.mk (hb); have n3_ := Aside0.mk (hi); clear BK169; clear BK175; clear HB; clear HI174; have BK169 := n0_; have BK175 := n1_; have HB := n2_; have HI174 := n3_; clear n0_ n1_ n2_ n3_; (try clear hb); (try clear hb2); (try clear hk); (try clear hi)))
  (try simp only [Act.put, List.setIfInBounds_toArray, List.set_cons_zero, List.set_cons_succ])
  go_cut [] (fun wc => ∃ (kq : Nat) (x170000_3 : Int) (x175000_3 : ByteArray) (x175001_3 : Int) (x175002_3 : Int) (x175003_3 : Bool) (x176000_3 : Int), Aside0 (chunk_Take_p.j0 kq x175000_3 x175001_3 x175002_3 x175003_3 x176000_3 = some (r1, r2, r3, r4)) ∧ Aside0 (kq ≤ k) ∧ Aside0 (wc.heap[gb169]? = some (.cells #[.int .i64 x170000_3, (.slice none 0 0), (.slice none 0 0)] 25 (0, 0))) ∧ Aside0 (wc.heap[gb175]? = some (.cells #[.int .i64 x176000_3, (.slice none 0 0), (.slice none 0 0)] 25 (0, 0))) ∧ Aside0 (IsS66 w wc g174 x175000_3 x175001_3 x175002_3 x175003_3) ∧ Aside0 (Below w.heap.size w wc))
  case first =>
    have H := HC4.out
    clear HC4
    by_cases c9 : t176 = 76
    · rw [if_pos c9] at H
      have c9b0 : (t176 == 76) = true := beq_iff_eq.mpr c9
      have c9b1 : (t176 != 76) = false := bne_eq_false_iff_eq.mpr c9
      clear c9
      (first | rw [c9b0] | (simp only [i64_w, i32_w]; rw [c9b0]) | skip)
      have H' := Aside0.mk H
      clear H
      go_wp2
      go_meet
      case rel => exact ⟨_, (0), (t177), (t178), (t179), (t180), (0), H', ⟨by first | omega | exact Nat.le_refl _⟩, ⟨by (with_reducible repeat (first | refine blk_drewN ?_ _ | refine blk_drew ?_ | refine blk_alloc ?_ _)); exact BK169.out⟩, ⟨by (with_reducible repeat (first | refine blk_drewN ?_ _ | refine blk_drew ?_ | refine blk_alloc ?_ _)); exact BK175.out⟩, ⟨by repeat (first | (with_reducible first | exact HI174.out | apply IsS66.alloc | apply IsS66.drewN | apply IsS66.drew | apply IsS66.set_0 | apply IsS66.set_1 | apply IsS66.set_2 | apply IsS66.set_3 | refine IsS66.far ?_ NB174_169.out _ | refine IsS66.far ?_ NB174_175.out _) | exact HI174.out)⟩, ⟨by repeat (first | (with_reducible first | exact HB.out | apply below_alloc | apply pw_below_drewN | apply below_drew1 | refine below_set ?_ (IsS66.ge HI174.out) | refine below_set ?_ GE169.out | refine below_set ?_ GE175.out) | exact HB.out)⟩⟩
    · rw [if_neg c9] at H
      have c9b0 : (t176 == 76) = false := beq_eq_false_iff_ne.mpr c9
      have c9b1 : (t176 != 76) = true := bne_iff_ne.mpr c9
      (first | rw [c9b0] | (simp only [i64_w, i32_w]; rw [c9b0]) | skip)
      by_cases c10 : t176 = 73
      · rw [if_pos c10] at H
        have c10b0 : (t176 == 73) = true := beq_iff_eq.mpr c10
        have c10b1 : (t176 != 73) = false := bne_eq_false_iff_eq.mpr c10
        clear c10
        replace H := Option.bind_eq_some_iff.mp H
        obtain ⟨⟨t181, t182, t183, t184, t185⟩, A110, H⟩ := H
        replace H : (if t181 = 0 then (some (0, ([] : List (S29)), ([] : List Int), 3)) else (chunk_Take_p.j0 k t182 t183 t184 t185 t181)) = some (r1, r2, r3, r4) := H
        have A11 := Aside0.mk A110
        clear A110
        by_cases c12 : t181 = 0
        · rw [if_pos c12] at H
          have c12b0 : (t181 == 0) = true := beq_iff_eq.mpr c12
          have c12b1 : (t181 != 0) = false := bne_eq_false_iff_eq.mpr c12
          clear c12
          simp only [Option.some.injEq, Prod.mk.injEq] at H
          obtain ⟨rfl, rfl, rfl, rfl⟩ := H
          go_wp2_with (first | ((with_reducible refine gate_callee (f := 20) rfl ?_); refine goesL_ (some 17) rfl rfl Try.func20 (by kernel_rfl) rfl #[.pointer (some ⟨g174, 0, none⟩), .int .i64 40] rfl (by (try simp only [List.map_toArray, List.map_cons, List.map_nil]); first | done | rfl | (simp only [List.length_drop, List.length_take]; rfl)) ?_; (with_reducible refine (scan_Scan_Num.calls g174 t177 t178 t179 t180 40 t181 t182 t183 t184 t185 w _ ?side1 ?side2 A11.out).mono ?_); (case side1 => repeat (first | (with_reducible first | exact HI174.out | apply IsS66.alloc | apply IsS66.drewN | apply IsS66.drew | apply IsS66.set_0 | apply IsS66.set_1 | apply IsS66.set_2 | apply IsS66.set_3 | refine IsS66.far ?_ NB174_169.out _ | refine IsS66.far ?_ NB174_175.out _) | exact HI174.out)); (case side2 => repeat (first | (with_reducible first | exact HB.out | apply below_alloc | apply pw_below_drewN | apply below_drew1 | refine below_set ?_ (IsS66.ge HI174.out) | refine below_set ?_ GE169.out | refine below_set ?_ GE175.out) | exact HB.out)); rintro e w13 ⟨rfl, hi, hb, hk⟩; refine ⟨_, rfl, ?_⟩; have n0_ := Aside0.mk (KeepBut.blk hk (g' := gb169) (o := .cells #[.int .i64 0, .slice none 0 0, .slice none 0 0] 25 (0, 0)) (by (with_reducible repeat (first | refine blk_drewN ?_ _ | refine blk_drew ?_ | refine blk_alloc ?_ _)); exact BK169.out) NB169_174.out (by simp)); have n1_ := Aside0.mk (KeepBut.blk hk (g' := gb175) (o := .cells #[.int .i64 0, .slice none 0 0, .slice none 0 0] 25 (0, 0)) (by (with_reducible repeat (first | refine blk_drewN ?_ _ | refine blk_drew ?_ | refine blk_alloc ?_ _)); exact BK175.out) NB175_174.out (by simp)); have n2_ := Aside0.mk (hb); have n3_ := Aside0.mk (hi); clear BK169; clear BK175; clear HB; clear HI174; have BK169 := n0_; have BK175 := n1_; have HB := n2_; have HI174 := n3_; clear n0_ n1_ n2_ n3_; (try clear hb); (try clear hb2); (try clear hk); (try clear hi); have hnb14 := NB175_169.out; have hnc14 := NB169_175.out; have hnb15 := NB175_174.out; have hnc15 := NB174_175.out; have hcz16_0 : w13.cell? ⟨gb175, 0, none⟩ = some (.int .i64 0) := (blk_cell BK175.out 0).trans rfl; have hcz16_1 : w13.cell? ⟨gb175, 1, none⟩ = some (.slice none 0 0) := (blk_cell BK175.out 1).trans rfl; have hcz16_2 : w13.cell? ⟨gb175, 2, none⟩ = some (.slice none 0 0) := (blk_cell BK175.out 2).trans rfl; have hfz16_0 := blk_frozen BK175.out 0; have hfz16_1 := blk_frozen BK175.out 1; have hfz16_2 := blk_frozen BK175.out 2; have hnb17 := NB169_174.out; have hnc17 := NB174_169.out; have hcz18_0 : w13.cell? ⟨gb169, 0, none⟩ = some (.int .i64 0) := (blk_cell BK169.out 0).trans rfl; have hcz18_1 : w13.cell? ⟨gb169, 1, none⟩ = some (.slice none 0 0) := (blk_cell BK169.out 1).trans rfl; have hcz18_2 : w13.cell? ⟨gb169, 2, none⟩ = some (.slice none 0 0) := (blk_cell BK169.out 2).trans rfl; have hfz18_0 := blk_frozen BK169.out 0; have hfz18_1 := blk_frozen BK169.out 1; have hfz18_2 := blk_frozen BK169.out 2))
          refine bodyPost_ret (results_ct rfl _ _ gb169 25 #[.int .i64 0, .slice none 0 0, .slice none 0 0] (0, 0) _ rfl (by (with_reducible repeat (first | refine blk_drewN ?_ _ | refine blk_drew ?_ | refine blk_alloc ?_ _)); refine blk_put (cs := #[.int .i64 0, .slice none 0 0, .slice none 0 0]) ?_ 2 _ rfl; (with_reducible repeat (first | refine blk_drewN ?_ _ | refine blk_drew ?_ | refine blk_alloc ?_ _)); refine blk_put (cs := #[.int .i64 0, .slice none 0 0, .slice none 0 0]) ?_ 1 _ rfl; (with_reducible repeat (first | refine blk_drewN ?_ _ | refine blk_drew ?_ | refine blk_alloc ?_ _)); refine blk_put (cs := #[.int .i64 0, .slice none 0 0, .slice none 0 0]) ?_ 0 _ rfl; (with_reducible repeat (first | refine blk_drewN ?_ _ | refine blk_drew ?_ | refine blk_alloc ?_ _)); refine blk_far ?_ NB169_175.out _; (with_reducible repeat (first | refine blk_drewN ?_ _ | refine blk_drew ?_ | refine blk_alloc ?_ _)); exact BK169.out) Try.underlying25 rfl (by kernel_rfl)) rfl ?_
          exact ⟨_, _, by first | rfl | (simp [errW_none, errW_some] <;> rfl) | (simp [*, errW_none, errW_some] <;> rfl), by first | exact Kd.R_nil _ _ _ _ _ | exact Kd.N_nil _ _ _ _ _ | exact Kd.V_nil _ _ _ _ _ | exact Kd.Q_nil _ _ _ _ _ | exact Kd.S_nil _ _ _ _ _, by first | exact Kd.R_nil _ _ _ _ _ | exact Kd.N_nil _ _ _ _ _ | exact Kd.V_nil _ _ _ _ _ | exact Kd.Q_nil _ _ _ _ _ | exact Kd.S_nil _ _ _ _ _, by repeat (first | (with_reducible first | exact HB.out | apply below_alloc | apply pw_below_drewN | apply below_drew1 | refine below_set ?_ (IsS66.ge HI174.out) | refine below_set ?_ GE169.out | refine below_set ?_ GE175.out) | exact HB.out)⟩
        · rw [if_neg c12] at H
          have c12b0 : (t181 == 0) = false := beq_eq_false_iff_ne.mpr c12
          have c12b1 : (t181 != 0) = true := bne_iff_ne.mpr c12
          have H' := Aside0.mk H
          clear H
          go_wp2_with (first | ((with_reducible refine gate_callee (f := 20) rfl ?_); refine goesL_ (some 17) rfl rfl Try.func20 (by kernel_rfl) rfl #[.pointer (some ⟨g174, 0, none⟩), .int .i64 40] rfl (by (try simp only [List.map_toArray, List.map_cons, List.map_nil]); first | done | rfl | (simp only [List.length_drop, List.length_take]; rfl)) ?_; (with_reducible refine (scan_Scan_Num.calls g174 t177 t178 t179 t180 40 t181 t182 t183 t184 t185 w _ ?side1 ?side2 A11.out).mono ?_); (case side1 => repeat (first | (with_reducible first | exact HI174.out | apply IsS66.alloc | apply IsS66.drewN | apply IsS66.drew | apply IsS66.set_0 | apply IsS66.set_1 | apply IsS66.set_2 | apply IsS66.set_3 | refine IsS66.far ?_ NB174_169.out _ | refine IsS66.far ?_ NB174_175.out _) | exact HI174.out)); (case side2 => repeat (first | (with_reducible first | exact HB.out | apply below_alloc | apply pw_below_drewN | apply below_drew1 | refine below_set ?_ (IsS66.ge HI174.out) | refine below_set ?_ GE169.out | refine below_set ?_ GE175.out) | exact HB.out)); rintro e w19 ⟨rfl, hi, hb, hk⟩; refine ⟨_, rfl, ?_⟩; have n0_ := Aside0.mk (KeepBut.blk hk (g' := gb169) (o := .cells #[.int .i64 0, .slice none 0 0, .slice none 0 0] 25 (0, 0)) (by (with_reducible repeat (first | refine blk_drewN ?_ _ | refine blk_drew ?_ | refine blk_alloc ?_ _)); exact BK169.out) NB169_174.out (by simp)); have n1_ := Aside0.mk (KeepBut.blk hk (g' := gb175) (o := .cells #[.int .i64 0, .slice none 0 0, .slice none 0 0] 25 (0, 0)) (by (with_reducible repeat (first | refine blk_drewN ?_ _ | refine blk_drew ?_ | refine blk_alloc ?_ _)); exact BK175.out) NB175_174.out (by simp)); have n2_ := Aside0.mk (hb); have n3_ := Aside0.mk (hi); clear BK169; clear BK175; clear HB; clear HI174; have BK169 := n0_; have BK175 := n1_; have HB := n2_; have HI174 := n3_; clear n0_ n1_ n2_ n3_; (try clear hb); (try clear hb2); (try clear hk); (try clear hi); have hnb20 := NB175_169.out; have hnc20 := NB169_175.out; have hnb21 := NB175_174.out; have hnc21 := NB174_175.out; have hcz22_0 : w19.cell? ⟨gb175, 0, none⟩ = some (.int .i64 0) := (blk_cell BK175.out 0).trans rfl; have hcz22_1 : w19.cell? ⟨gb175, 1, none⟩ = some (.slice none 0 0) := (blk_cell BK175.out 1).trans rfl; have hcz22_2 : w19.cell? ⟨gb175, 2, none⟩ = some (.slice none 0 0) := (blk_cell BK175.out 2).trans rfl; have hfz22_0 := blk_frozen BK175.out 0; have hfz22_1 := blk_frozen BK175.out 1; have hfz22_2 := blk_frozen BK175.out 2))
          go_meet
          case rel => exact ⟨_, (0), (t182), (t183), (t184), (t185), (t181), H', ⟨by first | omega | exact Nat.le_refl _⟩, ⟨by (with_reducible repeat (first | refine blk_drewN ?_ _ | refine blk_drew ?_ | refine blk_alloc ?_ _)); refine blk_far ?_ NB169_175.out _; (with_reducible repeat (first | refine blk_drewN ?_ _ | refine blk_drew ?_ | refine blk_alloc ?_ _)); exact BK169.out⟩, ⟨by (with_reducible repeat (first | refine blk_drewN ?_ _ | refine blk_drew ?_ | refine blk_alloc ?_ _)); refine blk_put (cs := #[.int .i64 0, .slice none 0 0, .slice none 0 0]) ?_ 0 _ rfl; (with_reducible repeat (first | refine blk_drewN ?_ _ | refine blk_drew ?_ | refine blk_alloc ?_ _)); exact BK175.out⟩, ⟨by repeat (first | (with_reducible first | exact HI174.out | apply IsS66.alloc | apply IsS66.drewN | apply IsS66.drew | apply IsS66.set_0 | apply IsS66.set_1 | apply IsS66.set_2 | apply IsS66.set_3 | refine IsS66.far ?_ NB174_169.out _ | refine IsS66.far ?_ NB174_175.out _) | exact HI174.out)⟩, ⟨by repeat (first | (with_reducible first | exact HB.out | apply below_alloc | apply pw_below_drewN | apply below_drew1 | refine below_set ?_ (IsS66.ge HI174.out) | refine below_set ?_ GE169.out | refine below_set ?_ GE175.out) | exact HB.out)⟩⟩
      · rw [if_neg c10] at H
        have c10b0 : (t176 == 73) = false := beq_eq_false_iff_ne.mpr c10
        have c10b1 : (t176 != 73) = true := bne_iff_ne.mpr c10
        simp only [Option.some.injEq, Prod.mk.injEq] at H
        obtain ⟨rfl, rfl, rfl, rfl⟩ := H
        have hnb23 := NB169_175.out
        have hnc23 := NB175_169.out
        have hnb24 := NB169_174.out
        have hnc24 := NB174_169.out
        have hcz25_0 : w8.cell? ⟨gb169, 0, none⟩ = some (.int .i64 0) := (blk_cell BK169.out 0).trans rfl
        have hcz25_1 : w8.cell? ⟨gb169, 1, none⟩ = some (.slice none 0 0) := (blk_cell BK169.out 1).trans rfl
        have hcz25_2 : w8.cell? ⟨gb169, 2, none⟩ = some (.slice none 0 0) := (blk_cell BK169.out 2).trans rfl
        have hfz25_0 := blk_frozen BK169.out 0
        have hfz25_1 := blk_frozen BK169.out 1
        have hfz25_2 := blk_frozen BK169.out 2
        go_wp2
        refine bodyPost_ret (results_ct rfl _ _ gb169 25 #[.int .i64 0, .slice none 0 0, .slice none 0 0] (0, 0) _ rfl (by (with_reducible repeat (first | refine blk_drewN ?_ _ | refine blk_drew ?_ | refine blk_alloc ?_ _)); refine blk_put (cs := #[.int .i64 0, .slice none 0 0, .slice none 0 0]) ?_ 2 _ rfl; (with_reducible repeat (first | refine blk_drewN ?_ _ | refine blk_drew ?_ | refine blk_alloc ?_ _)); refine blk_put (cs := #[.int .i64 0, .slice none 0 0, .slice none 0 0]) ?_ 1 _ rfl; (with_reducible repeat (first | refine blk_drewN ?_ _ | refine blk_drew ?_ | refine blk_alloc ?_ _)); refine blk_put (cs := #[.int .i64 0, .slice none 0 0, .slice none 0 0]) ?_ 0 _ rfl; (with_reducible repeat (first | refine blk_drewN ?_ _ | refine blk_drew ?_ | refine blk_alloc ?_ _)); exact BK169.out) Try.underlying25 rfl (by kernel_rfl)) rfl ?_
        exact ⟨_, _, by first | rfl | (simp [errW_none, errW_some] <;> rfl) | (simp [*, errW_none, errW_some] <;> rfl), by first | exact Kd.R_nil _ _ _ _ _ | exact Kd.N_nil _ _ _ _ _ | exact Kd.V_nil _ _ _ _ _ | exact Kd.Q_nil _ _ _ _ _ | exact Kd.S_nil _ _ _ _ _, by first | exact Kd.R_nil _ _ _ _ _ | exact Kd.N_nil _ _ _ _ _ | exact Kd.V_nil _ _ _ _ _ | exact Kd.Q_nil _ _ _ _ _ | exact Kd.S_nil _ _ _ _ _, by repeat (first | (with_reducible first | exact HB.out | apply below_alloc | apply pw_below_drewN | apply below_drew1 | refine below_set ?_ (IsS66.ge HI174.out) | refine below_set ?_ GE169.out | refine below_set ?_ GE175.out) | exact HB.out)⟩
  case rest =>
    clear HC4
    try clear c1
    try clear c2
    try clear p2
    try clear c9
    try clear c9b0
    try clear c9b1
    try clear c10
    try clear c10b0
    try clear c10b1
    try clear c12
    try clear c12b0
    try clear c12b1
    try clear c14
    try clear c15
    try clear c17
    try clear c18
    try clear c19
    try clear c20
    try clear c21
    try clear c23
    try clear c24
    try clear hcz16_0
    try clear hcz16_1
    try clear hcz16_2
    try clear hcz18_0
    try clear hcz18_1
    try clear hcz18_2
    try clear hcz22_0
    try clear hcz22_1
    try clear hcz22_2
    try clear hcz25_0
    try clear hcz25_1
    try clear hcz25_2
    try clear hfz16_0
    try clear hfz16_1
    try clear hfz16_2
    try clear hfz18_0
    try clear hfz18_1
    try clear hfz18_2
    try clear hfz22_0
    try clear hfz22_1
    try clear hfz22_2
    try clear hfz25_0
    try clear hfz25_1
    try clear hfz25_2
    obtain ⟨kq, x170000_3, x175000_3, x175001_3, x175002_3, x175003_3, x176000_3, HA, HJ3, BK169, BK175, HI174, HB⟩ := hcut
    cases kq with
    | zero => exact absurd HA.out (by simp [chunk_Take_p.j0])
    | succ kj3 =>
      have H := HA.out
      clear HA
      simp only [chunk_Take_p.j0] at H
      replace H := Option.bind_eq_some_iff.mp H
      obtain ⟨⟨t186, t187, t188, t189, t190⟩, A260, H⟩ := H
      replace H : (chunk_Take_p.l0 kj3 t186 0 t187 t188 t189 t190 x176000_3 ([] : List (S29)) ([] : List Int)) = some (r1, r2, r3, r4) := H
      have A26 := Aside0.mk A260
      clear A260
      have H' := Aside0.mk H
      clear H
      go_wp2_with (first | ((with_reducible refine gate_callee (f := 20) rfl ?_); refine goesL_ (some 24) rfl rfl Try.func20 (by kernel_rfl) rfl #[.pointer (some ⟨g174, 0, none⟩), .int .i64 8] rfl (by (try simp only [List.map_toArray, List.map_cons, List.map_nil]); first | done | rfl | (simp only [List.length_drop, List.length_take]; rfl)) ?_; (with_reducible refine (scan_Scan_Num.calls g174 x175000_3 x175001_3 x175002_3 x175003_3 8 t186 t187 t188 t189 t190 w _ ?side1 ?side2 A26.out).mono ?_); (case side1 => repeat (first | (with_reducible first | exact HI174.out | apply IsS66.alloc | apply IsS66.drewN | apply IsS66.drew | apply IsS66.set_0 | apply IsS66.set_1 | apply IsS66.set_2 | apply IsS66.set_3 | refine IsS66.far ?_ NB174_169.out _ | refine IsS66.far ?_ NB174_175.out _) | exact HI174.out)); (case side2 => repeat (first | (with_reducible first | exact HB.out | apply below_alloc | apply pw_below_drewN | apply below_drew1 | refine below_set ?_ (IsS66.ge HI174.out) | refine below_set ?_ GE169.out | refine below_set ?_ GE175.out) | exact HB.out)); rintro e w27 ⟨rfl, hi, hb, hk⟩; refine ⟨_, rfl, ?_⟩; have n0_ := Aside0.mk (KeepBut.blk hk (g' := gb169) (o := .cells #[.int .i64 x170000_3, .slice none 0 0, .slice none 0 0] 25 (0, 0)) (by (with_reducible repeat (first | refine blk_drewN ?_ _ | refine blk_drew ?_ | refine blk_alloc ?_ _)); exact BK169.out) NB169_174.out (by simp)); have n1_ := Aside0.mk (KeepBut.blk hk (g' := gb175) (o := .cells #[.int .i64 x176000_3, .slice none 0 0, .slice none 0 0] 25 (0, 0)) (by (with_reducible repeat (first | refine blk_drewN ?_ _ | refine blk_drew ?_ | refine blk_alloc ?_ _)); exact BK175.out) NB175_174.out (by simp)); have n2_ := Aside0.mk (hb); have n3_ := Aside0.mk (hi); clear BK169; clear BK175; clear HB; clear HI174; have BK169 := n0_; have BK175 := n1_; have HB := n2_; have HI174 := n3_; clear n0_ n1_ n2_ n3_; (try clear hb); (try clear hb2); (try clear hk); (try clear hi)))
      go_loopg [25] kj3 (fun kq v25 w' => ∃ (x25_2 : Int) (x175000_2 : ByteArray) (x175001_2 : Int) (x175002_2 : Int) (x175003_2 : Bool) (x176001_2 : List (S29)) (x176002_2 : List Int) (u176001 : Value) (u176002 : Value), v25 = .int .i64 x25_2 ∧ Aside0 (chunk_Take_p.l0 kq t186 x25_2 x175000_2 x175001_2 x175002_2 x175003_2 x176000_3 x176001_2 x176002_2 = some (r1, r2, r3, r4)) ∧ Aside0 (kq ≤ kj3) ∧ Aside0 (Kd.R k29 29 w' w.heap.size (fun _ => True) u176001 x176001_2) ∧ Aside0 (Kd.R (Kd.int .i64) 3 w' w.heap.size (fun _ => True) u176002 x176002_2) ∧ Aside0 (w'.heap[gb169]? = some (.cells #[.int .i64 x170000_3, (.slice none 0 0), (.slice none 0 0)] 25 (0, 0))) ∧ Aside0 (w'.heap[gb175]? = some (.cells #[.int .i64 x176000_3, u176001, u176002] 25 (0, 0))) ∧ Aside0 (IsS66 w w' g174 x175000_2 x175001_2 x175002_2 x175003_2) ∧ Aside0 (Below w.heap.size w w'))
      case atStart => exact ⟨(0), (t187), (t188), (t189), (t190), (([] : List (S29))), (([] : List Int)), (.slice none 0 0), (.slice none 0 0), (by first | rfl | (simp; done) | (simp [*]; done) | (simp [M.isEmpty_bne]; done)), H', ⟨Nat.le_refl _⟩, ⟨by first | exact Kd.R_nil _ _ _ _ _ | exact Kd.N_nil _ _ _ _ _ | exact Kd.V_nil _ _ _ _ _ | exact Kd.Q_nil _ _ _ _ _ | exact Kd.S_nil _ _ _ _ _⟩, ⟨by first | exact Kd.R_nil _ _ _ _ _ | exact Kd.N_nil _ _ _ _ _ | exact Kd.V_nil _ _ _ _ _ | exact Kd.Q_nil _ _ _ _ _ | exact Kd.S_nil _ _ _ _ _⟩, ⟨by (with_reducible repeat (first | refine blk_drewN ?_ _ | refine blk_drew ?_ | refine blk_alloc ?_ _)); exact BK169.out⟩, ⟨by (with_reducible repeat (first | refine blk_drewN ?_ _ | refine blk_drew ?_ | refine blk_alloc ?_ _)); exact BK175.out⟩, ⟨by repeat (first | (with_reducible first | exact HI174.out | apply IsS66.alloc | apply IsS66.drewN | apply IsS66.drew | apply IsS66.set_0 | apply IsS66.set_1 | apply IsS66.set_2 | apply IsS66.set_3 | refine IsS66.far ?_ NB174_169.out _ | refine IsS66.far ?_ NB174_175.out _) | exact HI174.out)⟩, ⟨by repeat (first | (with_reducible first | exact HB.out | apply below_alloc | apply pw_below_drewN | apply below_drew1 | refine below_set ?_ (IsS66.ge HI174.out) | refine below_set ?_ GE169.out | refine below_set ?_ GE175.out) | exact HB.out)⟩⟩
      case round =>
        clear H'
        try clear c1
        try clear c2
        try clear p2
        try clear c9
        try clear c9b0
        try clear c9b1
        try clear c10
        try clear c10b0
        try clear c10b1
        try clear c12
        try clear c12b0
        try clear c12b1
        try clear c14
        try clear c15
        try clear c17
        try clear c18
        try clear c19
        try clear c20
        try clear c21
        try clear c23
        try clear c24
        try clear hcz16_0
        try clear hcz16_1
        try clear hcz16_2
        try clear hcz18_0
        try clear hcz18_1
        try clear hcz18_2
        try clear hcz22_0
        try clear hcz22_1
        try clear hcz22_2
        try clear hcz25_0
        try clear hcz25_1
        try clear hcz25_2
        try clear hfz16_0
        try clear hfz16_1
        try clear hfz16_2
        try clear hfz18_0
        try clear hfz18_1
        try clear hfz18_2
        try clear hfz22_0
        try clear hfz22_1
        try clear hfz22_2
        try clear hfz25_0
        try clear hfz25_1
        try clear hfz25_2
        try clear p2
        obtain ⟨x25_2, x175000_2, x175001_2, x175002_2, x175003_2, x176001_2, x176002_2, u176001, u176002, rfl, HA, HK2, HO_176001, HO_176002, BK169, BK175, HI174, HB⟩ := hrel
        cases gk with
        | zero => exact absurd HA.out (by simp [chunk_Take_p.l0])
        | succ k2 =>
          have H := HA.out
          clear HA
          simp only [chunk_Take_p.l0] at H
          by_cases c28 : x25_2 < t186
          · rw [if_pos c28] at H
            have c28b0 : decide (x25_2 < t186) = true := decide_eq_true c28
            clear c28
            replace H := Option.bind_eq_some_iff.mp H
            obtain ⟨⟨t191, t192, t193, t194, t195⟩, A290, H⟩ := H
            replace H : (if x176000_3 > 0 then ((scan_Scan_Fix.f t192 t193 t194 t195 32).bind fun bt197 => ((scan_Scan_Num.f bt197.2.1 bt197.2.2.1 bt197.2.2.2.1 bt197.2.2.2.2 2147483648).bind fun bt202 => (if x176002_2.length < 17592186044416 then (if x176001_2.length < 4398046511104 then (chunk_Take_p.l0 k2 t186 (wrap64 (x25_2 + 1)) bt202.2.1 bt202.2.2.1 bt202.2.2.2.1 bt202.2.2.2.2 x176000_3 (x176001_2 ++ [(⟨t191, bt197.1⟩ : S29)]) (x176002_2 ++ [bt202.1])) else (none)) else (none)))) else ((scan_Scan_Text.f t192 t193 t194 t195 2048).bind fun bt213 => (if x176001_2.length < 4398046511104 then (chunk_Take_p.l0 k2 t186 (wrap64 (x25_2 + 1)) bt213.2.1 bt213.2.2.1 bt213.2.2.2.1 bt213.2.2.2.2 x176000_3 (x176001_2 ++ [(⟨t191, bt213.1⟩ : S29)]) x176002_2) else (none)))) = some (r1, r2, r3, r4) := H
            have A29 := Aside0.mk A290
            clear A290
            by_cases c30 : x176000_3 > 0
            · rw [if_pos c30] at H
              have c30b0 : decide (0 < x176000_3) = true := decide_eq_true c30
              clear c30
              replace H := Option.bind_eq_some_iff.mp H
              obtain ⟨⟨t197, t198, t199, t200, t201⟩, A310, H⟩ := H
              replace H : ((scan_Scan_Num.f t198 t199 t200 t201 2147483648).bind fun bt202 => (if x176002_2.length < 17592186044416 then (if x176001_2.length < 4398046511104 then (chunk_Take_p.l0 k2 t186 (wrap64 (x25_2 + 1)) bt202.2.1 bt202.2.2.1 bt202.2.2.2.1 bt202.2.2.2.2 x176000_3 (x176001_2 ++ [(⟨t191, t197⟩ : S29)]) (x176002_2 ++ [bt202.1])) else (none)) else (none))) = some (r1, r2, r3, r4) := H
              have A31 := Aside0.mk A310
              clear A310
              replace H := Option.bind_eq_some_iff.mp H
              obtain ⟨⟨t202, t203, t204, t205, t206⟩, A320, H⟩ := H
              replace H : (if x176002_2.length < 17592186044416 then (if x176001_2.length < 4398046511104 then (chunk_Take_p.l0 k2 t186 (wrap64 (x25_2 + 1)) t203 t204 t205 t206 x176000_3 (x176001_2 ++ [(⟨t191, t197⟩ : S29)]) (x176002_2 ++ [t202])) else (none)) else (none)) = some (r1, r2, r3, r4) := H
              have A32 := Aside0.mk A320
              clear A320
              by_cases c33 : x176002_2.length < 17592186044416
              · rw [if_pos c33] at H
                have LMc33 := Aside0.mk c33
                clear c33
                obtain ⟨y207, hy207⟩ : ∃ y_ : List Int, y_ = (x176002_2 ++ [t202]) := ⟨_, rfl⟩
                replace H : (if x176001_2.length < 4398046511104 then (chunk_Take_p.l0 k2 t186 (wrap64 (x25_2 + 1)) t203 t204 t205 t206 x176000_3 (x176001_2 ++ [(⟨t191, t197⟩ : S29)]) y207) else (none)) = some (r1, r2, r3, r4) := by first | (rw [hy207]; with_reducible exact H) | (have H2_ := (Option.bind_some _ _).symm.trans H; rw [hy207]; with_reducible exact H2_) | (have H2_ := (Option.bind_some _ _).symm.trans H; with_reducible exact H2_) | with_reducible exact H | (rw [hy207]; exact H) | exact H
                have Ny207 := Aside0.mk hy207
                clear hy207
                by_cases c34 : x176001_2.length < 4398046511104
                · rw [if_pos c34] at H
                  have LMc34 := Aside0.mk c34
                  clear c34
                  obtain ⟨y210, hy210⟩ : ∃ y_ : List (S29), y_ = (x176001_2 ++ [(⟨t191, t197⟩ : S29)]) := ⟨_, rfl⟩
                  replace H : (chunk_Take_p.l0 k2 t186 (wrap64 (x25_2 + 1)) t203 t204 t205 t206 x176000_3 y210 y207) = some (r1, r2, r3, r4) := by first | (rw [hy210]; with_reducible exact H) | (have H2_ := (Option.bind_some _ _).symm.trans H; rw [hy210]; with_reducible exact H2_) | (have H2_ := (Option.bind_some _ _).symm.trans H; with_reducible exact H2_) | with_reducible exact H | (rw [hy210]; exact H) | exact H
                  have Ny210 := Aside0.mk hy210
                  clear hy210
                  have H' := Aside0.mk H
                  clear H
                  try go_wp2_with (first | ((with_reducible refine gate_callee (f := 21) rfl ?_); refine goesL_ (some 28) rfl rfl Try.func21 (by kernel_rfl) rfl #[.pointer (some ⟨g174, 0, none⟩), .int .i64 64] rfl (by (try simp only [List.map_toArray, List.map_cons, List.map_nil]); first | done | rfl | (simp only [List.length_drop, List.length_take]; rfl)) ?_; (with_reducible refine (scan_Scan_Text.calls g174 x175000_2 x175001_2 x175002_2 x175003_2 64 t191 t192 t193 t194 t195 w _ ?side1 ?side2 A29.out).mono ?_); (case side1 => repeat (first | (with_reducible first | exact HI174.out | apply IsS66.alloc | apply IsS66.drewN | apply IsS66.drew | apply IsS66.set_0 | apply IsS66.set_1 | apply IsS66.set_2 | apply IsS66.set_3 | refine IsS66.far ?_ NB174_169.out _ | refine IsS66.far ?_ NB174_175.out _) | exact HI174.out)); (case side2 => repeat (first | (with_reducible first | exact HB.out | apply below_alloc | apply pw_below_drewN | apply below_drew1 | refine below_set ?_ (IsS66.ge HI174.out) | refine below_set ?_ GE169.out | refine below_set ?_ GE175.out) | exact HB.out)); rintro e w35 ⟨rfl, hi, hb, hk⟩; refine ⟨_, rfl, ?_⟩; have n0_ := Aside0.mk (Kd.R_mono (Kd.R_keep (IsS66.apart (show IsS66 w _ g174 x175000_2 x175001_2 x175002_2 x175003_2 from by repeat (first | (with_reducible first | exact HI174.out | apply IsS66.alloc | apply IsS66.drewN | apply IsS66.drew | apply IsS66.set_0 | apply IsS66.set_1 | apply IsS66.set_2 | apply IsS66.set_3 | refine IsS66.far ?_ NB174_169.out _ | refine IsS66.far ?_ NB174_175.out _) | exact HI174.out)) (by (with_reducible repeat (first | apply Kd.R_alloc | apply Kd.R_drewN | apply Kd.R_drew)); exact HO_176001.out) (by decide)) hk (fun _ h => h.2)) (fun _ h => h.1)); have n1_ := Aside0.mk (Kd.R_mono (Kd.R_keep (IsS66.apart (show IsS66 w _ g174 x175000_2 x175001_2 x175002_2 x175003_2 from by repeat (first | (with_reducible first | exact HI174.out | apply IsS66.alloc | apply IsS66.drewN | apply IsS66.drew | apply IsS66.set_0 | apply IsS66.set_1 | apply IsS66.set_2 | apply IsS66.set_3 | refine IsS66.far ?_ NB174_169.out _ | refine IsS66.far ?_ NB174_175.out _) | exact HI174.out)) (by (with_reducible repeat (first | apply Kd.R_alloc | apply Kd.R_drewN | apply Kd.R_drew)); exact HO_176002.out) (by decide)) hk (fun _ h => h.2)) (fun _ h => h.1)); have n2_ := Aside0.mk (KeepBut.blk hk (g' := gb169) (o := .cells #[.int .i64 x170000_3, .slice none 0 0, .slice none 0 0] 25 (0, 0)) (by (with_reducible repeat (first | refine blk_drewN ?_ _ | refine blk_drew ?_ | refine blk_alloc ?_ _)); exact BK169.out) NB169_174.out (by simp)); have n3_ := Aside0.mk (KeepBut.blk hk (g' := gb175) (o := .cells #[.int .i64 x176000_3, u176001, u176002] 25 (0, 0)) (by (with_reducible repeat (first | refine blk_drewN ?_ _ | refine blk_drew ?_ | refine blk_alloc ?_ _)); exact BK175.out) NB175_174.out (by simp)); have n4_ := Aside0.mk (hb); have n5_ := Aside0.mk (hi); clear HO_176001; clear HO_176002; clear BK169; clear BK175; clear HB; clear HI174; have HO_176001 := n0_; have HO_176002 := n1_; have BK169 := n2_; have BK175 := n3_; have HB := n4_; have HI174 := n5_; clear n0_ n1_ n2_ n3_ n4_ n5_; (try clear hb); (try clear hb2); (try clear hk); (try clear hi)) | ((with_reducible refine gate_dst (N := 6) rfl ?_); refine box_event ?hg (N := 6) ?hd (cs := #[.string (⟨#[]⟩ : ByteArray), .string (⟨#[]⟩ : ByteArray)]) (t := 29) ?hr ?_; (case hd => rfl); (case hg => rfl); (case hr => first | (go_simp; done) | (go_simp; rfl)); intro gb196 hg w36 hbox hb; have n0_ := Aside0.mk (Kd.R_below (Kd.R_elderB (by (with_reducible repeat (first | apply Kd.R_alloc | apply Kd.R_drewN | apply Kd.R_drew)); exact HO_176001.out) gb196 (Nat.le_of_eq hg.symm)) hb); have n1_ := Aside0.mk (Kd.R_below (by (with_reducible repeat (first | apply Kd.R_alloc | apply Kd.R_drewN | apply Kd.R_drew)); exact HO_176002.out) hb); have n2_ := Aside0.mk (blk_below (g := gb169) (o := .cells #[.int .i64 x170000_3, .slice none 0 0, .slice none 0 0] 25 (0, 0)) (by (with_reducible repeat (first | refine blk_drewN ?_ _ | refine blk_drew ?_ | refine blk_alloc ?_ _)); exact BK169.out) hb); have n3_ := Aside0.mk (blk_below (g := gb175) (o := .cells #[.int .i64 x176000_3, u176001, u176002] 25 (0, 0)) (by (with_reducible repeat (first | refine blk_drewN ?_ _ | refine blk_drew ?_ | refine blk_alloc ?_ _)); exact BK175.out) hb); have n4_ := Aside0.mk (IsS66.below (by repeat (first | (with_reducible first | exact HI174.out | apply IsS66.alloc | apply IsS66.drewN | apply IsS66.drew | apply IsS66.set_0 | apply IsS66.set_1 | apply IsS66.set_2 | apply IsS66.set_3 | refine IsS66.far ?_ NB174_169.out _ | refine IsS66.far ?_ NB174_175.out _) | exact HI174.out)) hb); have n5_ := Aside0.mk (below_step (by repeat (first | (with_reducible first | exact HB.out | apply below_alloc | apply pw_below_drewN | apply below_drew1 | refine below_set ?_ (IsS66.ge HI174.out) | refine below_set ?_ GE169.out | refine below_set ?_ GE175.out) | exact HB.out)) hb); have n6_ := Aside0.mk (hbox); have n7_ := Aside0.mk ((by rw [hg]; exact (below_size (by repeat (first | (with_reducible first | exact HB.out | apply below_alloc | apply pw_below_drewN | apply below_drew1 | refine below_set ?_ (IsS66.ge HI174.out) | refine below_set ?_ GE169.out | refine below_set ?_ GE175.out) | exact HB.out))) : w.heap.size ≤ gb196)); have n8_ := Aside0.mk ((by rw [hg]; exact (below_size (by repeat (first | (with_reducible first | exact HB.out | apply below_alloc | apply pw_below_drewN | apply below_drew1 | refine below_set ?_ (IsS66.ge HI174.out) | refine below_set ?_ GE169.out | refine below_set ?_ GE175.out) | exact HB.out))) : w.heap.size ≤ gb196)); have n9_ := Aside0.mk ((by rw [hg]; exact Nat.ne_of_lt (blk_lt (g := gb169) (o := .cells #[.int .i64 x170000_3, .slice none 0 0, .slice none 0 0] 25 (0, 0)) (by (with_reducible repeat (first | refine blk_drewN ?_ _ | refine blk_drew ?_ | refine blk_alloc ?_ _)); exact BK169.out)) : gb169 ≠ gb196)); have n10_ := Aside0.mk ((by rw [hg]; exact Nat.ne_of_gt (blk_lt (g := gb169) (o := .cells #[.int .i64 x170000_3, .slice none 0 0, .slice none 0 0] 25 (0, 0)) (by (with_reducible repeat (first | refine blk_drewN ?_ _ | refine blk_drew ?_ | refine blk_alloc ?_ _)); exact BK169.out)) : gb196 ≠ gb169)); have n11_ := Aside0.mk ((by rw [hg]; exact Nat.ne_of_lt (blk_lt (g := gb175) (o := .cells #[.int .i64 x176000_3, u176001, u176002] 25 (0, 0)) (by (with_reducible repeat (first | refine blk_drewN ?_ _ | refine blk_drew ?_ | refine blk_alloc ?_ _)); exact BK175.out)) : gb175 ≠ gb196)); have n12_ := Aside0.mk ((by rw [hg]; exact Nat.ne_of_gt (blk_lt (g := gb175) (o := .cells #[.int .i64 x176000_3, u176001, u176002] 25 (0, 0)) (by (with_reducible repeat (first | refine blk_drewN ?_ _ | refine blk_drew ?_ | refine blk_alloc ?_ _)); exact BK175.out)) : gb196 ≠ gb175)); have n13_ := Aside0.mk ((by rw [hg]; exact Nat.ne_of_lt (IsS66.lt (show IsS66 w _ g174 t192 t193 t194 t195 from by repeat (first | (with_reducible first | exact HI174.out | apply IsS66.alloc | apply IsS66.drewN | apply IsS66.drew | apply IsS66.set_0 | apply IsS66.set_1 | apply IsS66.set_2 | apply IsS66.set_3 | refine IsS66.far ?_ NB174_169.out _ | refine IsS66.far ?_ NB174_175.out _) | exact HI174.out))) : g174 ≠ gb196)); have n14_ := Aside0.mk ((by rw [hg]; exact Nat.ne_of_gt (IsS66.lt (show IsS66 w _ g174 t192 t193 t194 t195 from by repeat (first | (with_reducible first | exact HI174.out | apply IsS66.alloc | apply IsS66.drewN | apply IsS66.drew | apply IsS66.set_0 | apply IsS66.set_1 | apply IsS66.set_2 | apply IsS66.set_3 | refine IsS66.far ?_ NB174_169.out _ | refine IsS66.far ?_ NB174_175.out _) | exact HI174.out))) : gb196 ≠ g174)); clear HO_176001; clear HO_176002; clear BK169; clear BK175; clear HI174; clear HB; have HO_176001 := n0_; have HO_176002 := n1_; have BK169 := n2_; have BK175 := n3_; have HI174 := n4_; have HB := n5_; have BK196 := n6_; have GW196 := n7_; have GE196 := n8_; have NB169_196 := n9_; have NB196_169 := n10_; have NB175_196 := n11_; have NB196_175 := n12_; have NB174_196 := n13_; have NB196_174 := n14_; clear n0_ n1_ n2_ n3_ n4_ n5_ n6_ n7_ n8_ n9_ n10_ n11_ n12_ n13_ n14_; clear hb hbox hg; have hnb37 := NB196_169.out; have hnc37 := NB169_196.out; have hnb38 := NB196_175.out; have hnc38 := NB175_196.out; have hnb39 := NB196_174.out; have hnc39 := NB174_196.out; have hcz40_0 : w36.cell? ⟨gb196, 0, none⟩ = some (.string (⟨#[]⟩ : ByteArray)) := (blk_cell BK196.out 0).trans rfl; have hcz40_1 : w36.cell? ⟨gb196, 1, none⟩ = some (.string (⟨#[]⟩ : ByteArray)) := (blk_cell BK196.out 1).trans rfl; have hfz40_0 := blk_frozen BK196.out 0; have hfz40_1 := blk_frozen BK196.out 1; have hnb41 := NB175_169.out; have hnc41 := NB169_175.out; have hnb42 := NB175_174.out; have hnc42 := NB174_175.out; have hcz43_0 : w36.cell? ⟨gb175, 0, none⟩ = some (.int .i64 x176000_3) := (blk_cell BK175.out 0).trans rfl; have hcz43_1 : w36.cell? ⟨gb175, 1, none⟩ = some (u176001) := (blk_cell BK175.out 1).trans rfl; have hcz43_2 : w36.cell? ⟨gb175, 2, none⟩ = some (u176002) := (blk_cell BK175.out 2).trans rfl; have hfz43_0 := blk_frozen BK175.out 0; have hfz43_1 := blk_frozen BK175.out 1; have hfz43_2 := blk_frozen BK175.out 2) | ((with_reducible refine gate_callee (f := 22) rfl ?_); refine goesL_ (some 34) rfl rfl Try.func22 (by kernel_rfl) rfl #[.pointer (some ⟨g174, 0, none⟩), .int .i64 32] rfl (by (try simp only [List.map_toArray, List.map_cons, List.map_nil]); first | done | rfl | (simp only [List.length_drop, List.length_take]; rfl)) ?_; (with_reducible refine (scan_Scan_Fix.calls g174 t192 t193 t194 t195 32 t197 t198 t199 t200 t201 w _ ?side1 ?side2 A31.out).mono ?_); (case side1 => repeat (first | (with_reducible first | exact HI174.out | apply IsS66.alloc | apply IsS66.drewN | apply IsS66.drew | apply IsS66.set_0 | apply IsS66.set_1 | apply IsS66.set_2 | apply IsS66.set_3 | refine IsS66.far ?_ NB174_169.out _ | refine IsS66.far ?_ NB174_175.out _ | refine IsS66.far ?_ NB174_196.out _) | exact HI174.out)); (case side2 => repeat (first | (with_reducible first | exact HB.out | apply below_alloc | apply pw_below_drewN | apply below_drew1 | refine below_set ?_ (IsS66.ge HI174.out) | refine below_set ?_ GE169.out | refine below_set ?_ GE175.out | refine below_set ?_ GE196.out) | exact HB.out)); rintro e w44 ⟨rfl, hi, hb, hk⟩; refine ⟨_, rfl, ?_⟩; have n0_ := Aside0.mk (Kd.R_mono (Kd.R_keep (IsS66.apart (show IsS66 w _ g174 t192 t193 t194 t195 from by repeat (first | (with_reducible first | exact HI174.out | apply IsS66.alloc | apply IsS66.drewN | apply IsS66.drew | apply IsS66.set_0 | apply IsS66.set_1 | apply IsS66.set_2 | apply IsS66.set_3 | refine IsS66.far ?_ NB174_169.out _ | refine IsS66.far ?_ NB174_175.out _ | refine IsS66.far ?_ NB174_196.out _) | exact HI174.out)) (by (with_reducible repeat (first | apply Kd.R_alloc | apply Kd.R_drewN | apply Kd.R_drew)); exact (Kd.R_mono (Kd.R_far (p := ⟨gb196, 1, none⟩) (Kd.R_far (p := ⟨gb196, 0, none⟩) (Kd.R_mono HO_176001.out (fun k_ hk => (⟨hk, hk.2⟩ : _ ∧ k_ ≠ gb196))) (fun _ hk => hk.2) (.string t191)) (fun _ hk => hk.2) (.string (⟨#[]⟩ : ByteArray))) (fun _ h_ => h_.1))) (by decide)) hk (fun _ h => h.2)) (fun _ h => h.1)); have n1_ := Aside0.mk (Kd.R_mono (Kd.R_keep (IsS66.apart (show IsS66 w _ g174 t192 t193 t194 t195 from by repeat (first | (with_reducible first | exact HI174.out | apply IsS66.alloc | apply IsS66.drewN | apply IsS66.drew | apply IsS66.set_0 | apply IsS66.set_1 | apply IsS66.set_2 | apply IsS66.set_3 | refine IsS66.far ?_ NB174_169.out _ | refine IsS66.far ?_ NB174_175.out _ | refine IsS66.far ?_ NB174_196.out _) | exact HI174.out)) (by (with_reducible repeat (first | apply Kd.R_alloc | apply Kd.R_drewN | apply Kd.R_drew)); exact (Kd.R_mono (Kd.R_far (p := ⟨gb196, 1, none⟩) (Kd.R_far (p := ⟨gb196, 0, none⟩) (Kd.R_types HO_176002.out BK196.out (by decide)) (fun _ hk => hk.2) (.string t191)) (fun _ hk => hk.2) (.string (⟨#[]⟩ : ByteArray))) (fun _ h_ => h_.1))) (by decide)) hk (fun _ h => h.2)) (fun _ h => h.1)); have n2_ := Aside0.mk (KeepBut.blk hk (g' := gb169) (o := .cells #[.int .i64 x170000_3, .slice none 0 0, .slice none 0 0] 25 (0, 0)) (by (with_reducible repeat (first | refine blk_drewN ?_ _ | refine blk_drew ?_ | refine blk_alloc ?_ _)); refine blk_far ?_ NB169_196.out _; (with_reducible repeat (first | refine blk_drewN ?_ _ | refine blk_drew ?_ | refine blk_alloc ?_ _)); refine blk_far ?_ NB169_196.out _; (with_reducible repeat (first | refine blk_drewN ?_ _ | refine blk_drew ?_ | refine blk_alloc ?_ _)); exact BK169.out) NB169_174.out (by simp)); have n3_ := Aside0.mk (KeepBut.blk hk (g' := gb175) (o := .cells #[.int .i64 x176000_3, u176001, u176002] 25 (0, 0)) (by (with_reducible repeat (first | refine blk_drewN ?_ _ | refine blk_drew ?_ | refine blk_alloc ?_ _)); refine blk_far ?_ NB175_196.out _; (with_reducible repeat (first | refine blk_drewN ?_ _ | refine blk_drew ?_ | refine blk_alloc ?_ _)); refine blk_far ?_ NB175_196.out _; (with_reducible repeat (first | refine blk_drewN ?_ _ | refine blk_drew ?_ | refine blk_alloc ?_ _)); exact BK175.out) NB175_174.out (by simp)); have n4_ := Aside0.mk (KeepBut.blk hk (g' := gb196) (o := .cells #[.string t191, .string (⟨#[]⟩ : ByteArray)] 29 (0, 0)) (by (with_reducible repeat (first | refine blk_drewN ?_ _ | refine blk_drew ?_ | refine blk_alloc ?_ _)); refine blk_put (cs := #[.string t191, .string (⟨#[]⟩ : ByteArray)]) ?_ 1 _ rfl; (with_reducible repeat (first | refine blk_drewN ?_ _ | refine blk_drew ?_ | refine blk_alloc ?_ _)); refine blk_put (cs := #[.string (⟨#[]⟩ : ByteArray), .string (⟨#[]⟩ : ByteArray)]) ?_ 0 _ rfl; (with_reducible repeat (first | refine blk_drewN ?_ _ | refine blk_drew ?_ | refine blk_alloc ?_ _)); exact BK196.out) NB196_174.out (by simp)); have n5_ := Aside0.mk (hb); have n6_ := Aside0.mk (hi); clear HO_176001; clear HO_176002; clear BK169; clear BK175; clear BK196; clear HB; clear HI174; have HO_176001 := n0_; have HO_176002 := n1_; have BK169 := n2_; have BK175 := n3_; have BK196 := n4_; have HB := n5_; have HI174 := n6_; clear n0_ n1_ n2_ n3_ n4_ n5_ n6_; (try clear hb); (try clear hb2); (try clear hk); (try clear hi); have hcz45_0 : w44.cell? ⟨gb196, 0, none⟩ = some (.string t191) := (blk_cell BK196.out 0).trans rfl; have hcz45_1 : w44.cell? ⟨gb196, 1, none⟩ = some (.string (⟨#[]⟩ : ByteArray)) := (blk_cell BK196.out 1).trans rfl; have hfz45_0 := blk_frozen BK196.out 0; have hfz45_1 := blk_frozen BK196.out 1))
                  have n0_ : Aside0 (Kd.R k29 29 (w44.setCell ⟨gb196, 1, none⟩ (.string t197)) w.heap.size (fun k_ => k_ ≠ gb196) u176001 x176001_2) := ⟨by (with_reducible repeat (first | apply Kd.R_alloc | apply Kd.R_drewN | apply Kd.R_drew)); exact Kd.R_mono (Kd.R_far (p := ⟨gb196, 1, none⟩) (Kd.R_mono HO_176001.out (fun k_ hk => (⟨hk, hk.2⟩ : _ ∧ k_ ≠ gb196))) (fun _ hk => hk.2) (.string t197)) (fun _ hk => hk.1.2)⟩
                  have n1_ : Aside0 (Kd.R (Kd.int .i64) 3 (w44.setCell ⟨gb196, 1, none⟩ (.string t197)) w.heap.size (fun _ => True) u176002 x176002_2) := ⟨by (with_reducible repeat (first | apply Kd.R_alloc | apply Kd.R_drewN | apply Kd.R_drew)); exact Kd.R_mono (Kd.R_far (p := ⟨gb196, 1, none⟩) (Kd.R_types HO_176002.out BK196.out (by decide)) (fun _ hk => hk.2) (.string t197)) (fun _ hk => trivial)⟩
                  have n2_ : Aside0 ((w44.setCell ⟨gb196, 1, none⟩ (.string t197)).heap[gb169]? = some (.cells #[.int .i64 x170000_3, .slice none 0 0, .slice none 0 0] 25 (0, 0))) := ⟨by (with_reducible repeat (first | refine blk_drewN ?_ _ | refine blk_drew ?_ | refine blk_alloc ?_ _)); refine blk_far ?_ NB169_196.out _; (with_reducible repeat (first | refine blk_drewN ?_ _ | refine blk_drew ?_ | refine blk_alloc ?_ _)); exact BK169.out⟩
                  have n3_ : Aside0 ((w44.setCell ⟨gb196, 1, none⟩ (.string t197)).heap[gb175]? = some (.cells #[.int .i64 x176000_3, u176001, u176002] 25 (0, 0))) := ⟨by (with_reducible repeat (first | refine blk_drewN ?_ _ | refine blk_drew ?_ | refine blk_alloc ?_ _)); refine blk_far ?_ NB175_196.out _; (with_reducible repeat (first | refine blk_drewN ?_ _ | refine blk_drew ?_ | refine blk_alloc ?_ _)); exact BK175.out⟩
                  have n4_ : Aside0 ((w44.setCell ⟨gb196, 1, none⟩ (.string t197)).heap[gb196]? = some (.cells #[.string t191, .string t197] 29 (0, 0))) := ⟨by (with_reducible repeat (first | refine blk_drewN ?_ _ | refine blk_drew ?_ | refine blk_alloc ?_ _)); refine blk_put (cs := #[.string t191, .string (⟨#[]⟩ : ByteArray)]) ?_ 1 _ rfl; (with_reducible repeat (first | refine blk_drewN ?_ _ | refine blk_drew ?_ | refine blk_alloc ?_ _)); exact BK196.out⟩
                  have n5_ : Aside0 (IsS66 w (w44.setCell ⟨gb196, 1, none⟩ (.string t197)) g174 t198 t199 t200 t201) := ⟨by repeat (first | (with_reducible first | exact HI174.out | apply IsS66.alloc | apply IsS66.drewN | apply IsS66.drew | apply IsS66.set_0 | apply IsS66.set_1 | apply IsS66.set_2 | apply IsS66.set_3 | refine IsS66.far ?_ NB174_169.out _ | refine IsS66.far ?_ NB174_175.out _ | refine IsS66.far ?_ NB174_196.out _) | exact HI174.out)⟩
                  have n6_ : Aside0 (Below w.heap.size w (w44.setCell ⟨gb196, 1, none⟩ (.string t197))) := ⟨by repeat (first | (with_reducible first | exact HB.out | apply below_alloc | apply pw_below_drewN | apply below_drew1 | refine below_set ?_ (IsS66.ge HI174.out) | refine below_set ?_ GE169.out | refine below_set ?_ GE175.out | refine below_set ?_ GE196.out) | exact HB.out)⟩
                  (try clear HO_176001)
                  (try clear HO_176002)
                  (try clear BK169)
                  (try clear BK175)
                  (try clear BK196)
                  (try clear HI174)
                  (try clear HB)
                  generalize (w44.setCell ⟨gb196, 1, none⟩ (.string t197)) = w46 at n0_ n1_ n2_ n3_ n4_ n5_ n6_ ⊢
                  have HO_176001 := n0_
                  have HO_176002 := n1_
                  have BK169 := n2_
                  have BK175 := n3_
                  have BK196 := n4_
                  have HI174 := n5_
                  have HB := n6_
                  clear n0_ n1_ n2_ n3_ n4_ n5_ n6_
                  have n0_ := Aside0.mk (Kd.R_drew HO_176001.out)
                  have n1_ := Aside0.mk (Kd.R_drew HO_176002.out)
                  have n2_ := Aside0.mk (blk_drew BK169.out)
                  have n3_ := Aside0.mk (blk_drew BK175.out)
                  have n4_ := Aside0.mk (blk_drew BK196.out)
                  have n5_ := Aside0.mk (IsS66.drew HI174.out)
                  have n6_ := Aside0.mk (below_drew1 HB.out)
                  clear HO_176001
                  clear HO_176002
                  clear BK169
                  clear BK175
                  clear BK196
                  clear HI174
                  clear HB
                  have HO_176001 := n0_
                  have HO_176002 := n1_
                  have BK169 := n2_
                  have BK175 := n3_
                  have BK196 := n4_
                  have HI174 := n5_
                  have HB := n6_
                  clear n0_ n1_ n2_ n3_ n4_ n5_ n6_
                  refine start_ (n := 8) (S := fun w' => w'.cell? ⟨gb175, 0, none⟩ = some (.int .i64 x176000_3) ∧ w'.cell? ⟨gb175, 1, none⟩ = some (u176001) ∧ w'.cell? ⟨gb175, 2, none⟩ = some (u176002)) (ds := [7]) #[false, false, false, false, false, false, false, false] (by kernel_rfl) rfl rfl ⟨(blk_cell BK175.out 0).trans rfl, (blk_cell BK175.out 1).trans rfl, (blk_cell BK175.out 2).trans rfl⟩ (fun hHeld => ?_); refine with_tabW chunk_Take_p.tab15 chunk_Take_p.bits15 (fun HT_ HW_ => ?_)
                  generalize w46.drew = w47 at HO_176001 HO_176002 BK169 BK175 BK196 HI174 HB hHeld ⊢
                  refine pure_ (i := 0) (N := some 36) (v := ?_) (a' := ?_) #[true, false, false, false, false, false, false, false] rfl rfl (any_of HT_.out (by kernel_rfl)) (fun _ _ _ h => h) (Or.inl ⟨by rfl, ?_⟩) ?_ ?_
                  rotate_left
                  · intro w'
                    go_simp
                    with_reducible rfl
                  rotate_left
                  · simp only [Act.put, List.setIfInBounds_toArray, List.set_cons_zero, List.set_cons_succ, i64_w, i32_w]
                    rfl
                  refine pure_ (i := 2) (N := some 38) (v := ?_) (a' := ?_) #[true, false, true, false, false, false, false, false] rfl rfl (any_of HT_.out (by kernel_rfl)) (fun _ _ _ h => h) (Or.inl ⟨by rfl, ?_⟩) ?_ ?_
                  rotate_left
                  · intro w'
                    go_simp
                    with_reducible rfl
                  rotate_left
                  · simp only [Act.put, List.setIfInBounds_toArray, List.set_cons_zero, List.set_cons_succ, i64_w, i32_w]
                    rfl
                  refine take_ (i := 1) (N := some 37) (v := ?_) (a' := ?_) #[true, true, true, false, false, false, false, false] rfl rfl (take_ofW HT_.out HW_.out (by kernel_rfl)) (fun _ _ _ h => h) (Or.inl ⟨by rfl, ?_⟩) hHeld ?_ ?_
                  rotate_left
                  · rintro w' ⟨s0, s1, s2⟩
                    go_simp
                    with_reducible rfl
                  rotate_left
                  · simp only [Act.put, List.setIfInBounds_toArray, List.set_cons_zero, List.set_cons_succ, i64_w, i32_w]
                    rfl
                  refine one_ (i := 3) (N := some 39) #[true, true, true, true, false, false, false, false] rfl rfl (one_of HT_.out (by kernel_rfl)) (by decide) (fun K hK => ?_)
                  refine goes_ Try.func20 (by kernel_rfl) rfl #[.pointer (some ⟨g174, 0, none⟩), .int .i64 2147483648] (by rfl) rfl rfl (by (try simp only [List.map_toArray, List.map_cons, List.map_nil]); first | done | rfl | (simp only [List.length_drop, List.length_take]; rfl)) ?_
                  with_reducible refine (scan_Scan_Num.calls g174 t198 t199 t200 t201 2147483648 t202 t203 t204 t205 t206 w _ ?side1 ?side2 A32.out).mono ?_
                  (case side1 => repeat (first | (with_reducible first | exact HI174.out | apply IsS66.alloc | apply IsS66.drewN | apply IsS66.drew | apply IsS66.set_0 | apply IsS66.set_1 | apply IsS66.set_2 | apply IsS66.set_3 | refine IsS66.far ?_ NB174_169.out _ | refine IsS66.far ?_ NB174_175.out _ | refine IsS66.far ?_ NB174_196.out _) | exact HI174.out))
                  (case side2 => repeat (first | (with_reducible first | exact HB.out | apply below_alloc | apply pw_below_drewN | apply below_drew1 | refine below_set ?_ (IsS66.ge HI174.out) | refine below_set ?_ GE169.out | refine below_set ?_ GE175.out | refine below_set ?_ GE196.out) | exact HB.out))
                  rintro e w48 ⟨rfl, hi, hb, hk⟩
                  refine ⟨_, rfl, ?_⟩
                  have n0_ := Aside0.mk (Kd.R_mono (Kd.R_keep (IsS66.apart (show IsS66 w _ g174 t198 t199 t200 t201 from by repeat (first | (with_reducible first | exact HI174.out | apply IsS66.alloc | apply IsS66.drewN | apply IsS66.drew | apply IsS66.set_0 | apply IsS66.set_1 | apply IsS66.set_2 | apply IsS66.set_3 | refine IsS66.far ?_ NB174_169.out _ | refine IsS66.far ?_ NB174_175.out _ | refine IsS66.far ?_ NB174_196.out _) | exact HI174.out)) (by (with_reducible repeat (first | apply Kd.R_alloc | apply Kd.R_drewN | apply Kd.R_drew)); exact HO_176001.out) (by decide)) hk (fun _ h => h.2)) (fun _ h => h.1))
                  have n1_ := Aside0.mk (Kd.R_mono (Kd.R_keep (IsS66.apart (show IsS66 w _ g174 t198 t199 t200 t201 from by repeat (first | (with_reducible first | exact HI174.out | apply IsS66.alloc | apply IsS66.drewN | apply IsS66.drew | apply IsS66.set_0 | apply IsS66.set_1 | apply IsS66.set_2 | apply IsS66.set_3 | refine IsS66.far ?_ NB174_169.out _ | refine IsS66.far ?_ NB174_175.out _ | refine IsS66.far ?_ NB174_196.out _) | exact HI174.out)) (by (with_reducible repeat (first | apply Kd.R_alloc | apply Kd.R_drewN | apply Kd.R_drew)); exact HO_176002.out) (by decide)) hk (fun _ h => h.2)) (fun _ h => h.1))
                  have n2_ := Aside0.mk (KeepBut.blk hk (g' := gb169) (o := .cells #[.int .i64 x170000_3, .slice none 0 0, .slice none 0 0] 25 (0, 0)) (by (with_reducible repeat (first | refine blk_drewN ?_ _ | refine blk_drew ?_ | refine blk_alloc ?_ _)); exact BK169.out) NB169_174.out (by simp))
                  have n3_ := Aside0.mk (KeepBut.blk hk (g' := gb175) (o := .cells #[.int .i64 x176000_3, u176001, u176002] 25 (0, 0)) (by (with_reducible repeat (first | refine blk_drewN ?_ _ | refine blk_drew ?_ | refine blk_alloc ?_ _)); exact BK175.out) NB175_174.out (by simp))
                  have n4_ := Aside0.mk (KeepBut.blk hk (g' := gb196) (o := .cells #[.string t191, .string t197] 29 (0, 0)) (by (with_reducible repeat (first | refine blk_drewN ?_ _ | refine blk_drew ?_ | refine blk_alloc ?_ _)); exact BK196.out) NB196_174.out (by simp))
                  have n5_ := Aside0.mk (hb)
                  have n6_ := Aside0.mk (hi)
                  clear HO_176001
                  clear HO_176002
                  clear BK169
                  clear BK175
                  clear BK196
                  clear HB
                  clear HI174
                  have HO_176001 := n0_
                  have HO_176002 := n1_
                  have BK169 := n2_
                  have BK175 := n3_
                  have BK196 := n4_
                  have HB := n5_
                  have HI174 := n6_
                  clear n0_ n1_ n2_ n3_ n4_ n5_ n6_
                  (try clear hb)
                  (try clear hb2)
                  (try clear hk)
                  (try clear hi)
                  refine hK.out _ _ ⟨(blk_cell BK175.out 0).trans rfl, (blk_cell BK175.out 1).trans rfl, (blk_cell BK175.out 2).trans rfl⟩ (fun hHeld => ?_)
                  clear hK K
                  refine norm_ (a' := ?_) ?_ ?_
                  rotate_left
                  · show Act.put _ (some 39) _ = _
                    simp only [Act.put, List.setIfInBounds_toArray, List.set_cons_zero, List.set_cons_succ, i64_w, i32_w]
                    rfl
                  refine one_ (i := 4) (N := some 40) #[true, true, true, true, true, false, false, false] rfl rfl (one_of HT_.out (by kernel_rfl)) (by decide) (fun K hK => ?_)
                  refine value_ (w1 := ?_) (v := ?_) (by rfl) rfl ?_ ?_
                  rotate_left 2
                  · go_simp
                    constructor
                    · rfl
                    · rfl
                  refine hK.out _ _ ⟨(blk_cell (blk_alloc BK175.out _) 0).trans rfl, (blk_cell (blk_alloc BK175.out _) 1).trans rfl, (blk_cell (blk_alloc BK175.out _) 2).trans rfl⟩ (fun hHeld => ?_)
                  clear hK K
                  refine norm_ (a' := ?_) ?_ ?_
                  rotate_left
                  · show Act.put _ (some 40) _ = _
                    simp only [Act.put, List.setIfInBounds_toArray, List.set_cons_zero, List.set_cons_succ, i64_w, i32_w]
                    rfl
                  refine one_ (i := 5) (N := some 41) #[true, true, true, true, true, true, false, false] rfl rfl (one_of HT_.out (by kernel_rfl)) (by decide) (fun K hK => ?_)
                  refine Kd.R_append_step (Kd.int .i64) (w0 := w) w.heap.size (by rfl) (.tmp 37) (.tmp 40) 23 3 (.int .i64 0) 8 rfl Try.underlying23 info3 rfl (by decide) (by omega) u176002 x176002_2 t202 [.int .i64 t202] (fun _ => True) (fun _ => False) rfl rfl ?aP (fun _ hk => hk.elim) ?aF ?aO ?aB ?aS ?aL ?_
                  (case aP => exact rfl)
                  (case aB => exact (by repeat (first | (with_reducible first | exact HB.out | apply below_alloc | apply pw_below_drewN | apply below_drew1 | refine below_set ?_ (IsS66.ge HI174.out) | refine below_set ?_ GE169.out | refine below_set ?_ GE175.out | refine below_set ?_ GE196.out) | exact HB.out)))
                  (case aF => exact (fun _ _ => trivial))
                  (case aO => exact (by (with_reducible repeat (first | apply Kd.R_alloc | apply Kd.R_drewN | apply Kd.R_drew)); exact HO_176002.out))
                  (case aS => exact (below_size (by repeat (first | (with_reducible first | exact HB.out | apply below_alloc | apply pw_below_drewN | apply below_drew1 | refine below_set ?_ (IsS66.ge HI174.out) | refine below_set ?_ GE169.out | refine below_set ?_ GE175.out | refine below_set ?_ GE196.out) | exact HB.out))))
                  (case aL => have := LMc33.out; omega)
                  intro v208 w49 ho hb hg hat
                  rw [← Ny207.out] at ho
                  have n0_ := Aside0.mk (Kd.R_over' (by (with_reducible repeat (first | apply Kd.R_alloc | apply Kd.R_drewN | apply Kd.R_drew)); exact HO_176001.out) (Kd.R_typed (by (with_reducible repeat (first | apply Kd.R_alloc | apply Kd.R_drewN | apply Kd.R_drew)); exact HO_176002.out)) (by decide) hg)
                  have n1_ := Aside0.mk (blk_grown (g := gb169) (o := .cells #[.int .i64 x170000_3, .slice none 0 0, .slice none 0 0] 25 (0, 0)) (by (with_reducible repeat (first | refine blk_drewN ?_ _ | refine blk_drew ?_ | refine blk_alloc ?_ _)); exact BK169.out) hg (Kd.R_ne HO_176002.out BK169.out (by decide)))
                  have n2_ := Aside0.mk (blk_grown (g := gb175) (o := .cells #[.int .i64 x176000_3, u176001, u176002] 25 (0, 0)) (by (with_reducible repeat (first | refine blk_drewN ?_ _ | refine blk_drew ?_ | refine blk_alloc ?_ _)); exact BK175.out) hg (Kd.R_ne HO_176002.out BK175.out (by decide)))
                  have n3_ := Aside0.mk (IsS66.grown (by first | exact HI174.out | exact IsS66.far HI174.out NB174_169.out _ | exact IsS66.far HI174.out NB174_175.out _ | exact IsS66.far HI174.out NB174_196.out _ | (repeat (first | (with_reducible first | exact HI174.out | apply IsS66.alloc | apply IsS66.drewN | apply IsS66.drew | apply IsS66.set_0 | apply IsS66.set_1 | apply IsS66.set_2 | apply IsS66.set_3 | refine IsS66.far ?_ NB174_169.out _ | refine IsS66.far ?_ NB174_175.out _ | refine IsS66.far ?_ NB174_196.out _) | exact HI174.out))) hg (IsS66.own_ne HI174.out HO_176002.out (by decide)))
                  have n4_ := Aside0.mk (blk_grown (g := gb196) (o := .cells #[.string t191, .string t197] 29 (0, 0)) (by (with_reducible repeat (first | refine blk_drewN ?_ _ | refine blk_drew ?_ | refine blk_alloc ?_ _)); exact BK196.out) hg (Kd.R_ne HO_176002.out BK196.out (by decide)))
                  have n5_ := Aside0.mk (hb)
                  have n6_ := Aside0.mk (ho)
                  clear HO_176001
                  clear BK169
                  clear BK175
                  clear HI174
                  clear BK196
                  clear HB
                  clear HO_176002
                  have HO_176001 := n0_
                  have BK169 := n1_
                  have BK175 := n2_
                  have HI174 := n3_
                  have BK196 := n4_
                  have HB := n5_
                  have HO209 := n6_
                  clear n0_ n1_ n2_ n3_ n4_ n5_ n6_
                  clear ho hb hg hat
                  obtain ⟨Ao50, co50, eo50⟩ := Kd.R_slice HO209.out
                  (first | subst eo50 | (injection eo50 with f1_ f2_ f3_; have f4_ := f1_.symm; have f5_ := f3_.symm; clear f1_ f2_ f3_; subst f4_; subst f5_))
                  refine hK.out _ _ ⟨(blk_cell BK175.out 0).trans rfl, (blk_cell BK175.out 1).trans rfl, (blk_cell BK175.out 2).trans rfl⟩ (fun hHeld => ?_)
                  clear hK K
                  refine norm_ (a' := ?_) ?_ ?_
                  rotate_left
                  · show Act.put _ (some 41) _ = _
                    simp only [Act.put, List.setIfInBounds_toArray, List.set_cons_zero, List.set_cons_succ, i64_w, i32_w]
                    rfl
                  refine pure_ (i := 6) (N := some 42) (v := ?_) (a' := ?_) #[true, true, true, true, true, true, true, false] rfl rfl (any_of HT_.out (by kernel_rfl)) (fun _ _ _ h => h) (Or.inl ⟨by rfl, ?_⟩) ?_ ?_
                  rotate_left
                  · intro w'
                    go_simp
                    with_reducible rfl
                  rotate_left
                  · simp only [Act.put, List.setIfInBounds_toArray, List.set_cons_zero, List.set_cons_succ, i64_w, i32_w]
                    rfl
                  refine last_ (i := 7) (N := none) #[true, true, true, true, true, true, true, true] rfl rfl (one_of HT_.out (by kernel_rfl)) (by decide) (fun K hK => ?_)
                  have hs51 : w49.cell? ⟨gb175, 2, none⟩ = some (u176002) := (blk_cell BK175.out 2).trans rfl
                  have hfs51 := blk_frozen BK175.out 2
                  have hns51_0 := NB169_175.out
                  have hns51_2 := NB196_175.out
                  have hms51_0 := NB175_169.out
                  have hms51_2 := NB175_196.out
                  refine skip_ (w1 := ?_) (by rfl) rfl ?_ ?_
                  rotate_left
                  · go_simp
                    rfl
                  refine hK.out _ _ ?_
                  clear hK K
                  refine done_ (done_of HT_.out (by kernel_rfl)) ?_
                  have hcz52_0 : w49.cell? ⟨gb175, 0, none⟩ = some (.int .i64 x176000_3) := (blk_cell BK175.out 0).trans rfl
                  have hcz52_1 : w49.cell? ⟨gb175, 1, none⟩ = some (u176001) := (blk_cell BK175.out 1).trans rfl
                  have hcz52_2 : w49.cell? ⟨gb175, 2, none⟩ = some (u176002) := (blk_cell BK175.out 2).trans rfl
                  have hfz52_0 := blk_frozen BK175.out 0
                  have hfz52_1 := blk_frozen BK175.out 1
                  have hfz52_2 := blk_frozen BK175.out 2
                  have hcz53_0 : w49.cell? ⟨gb196, 0, none⟩ = some (.string t191) := (blk_cell BK196.out 0).trans rfl
                  have hcz53_1 : w49.cell? ⟨gb196, 1, none⟩ = some (.string t197) := (blk_cell BK196.out 1).trans rfl
                  have hfz53_0 := blk_frozen BK196.out 0
                  have hfz53_1 := blk_frozen BK196.out 1
                  try go_wp2_with (first | ((with_reducible refine gate_builtin (b := .append) (xs := #[.tmp 47, .tmp 49]) rfl ?_); at_builtin; refine Kd.R_append k29 (w0 := w) w.heap.size rfl (.tmp 47) (.tmp 49) 22 29 (.agg #[(.string ⟨#[]⟩), (.string ⟨#[]⟩)]) 32 rfl Try.underlying22 info29 rfl (by decide) (by omega) u176001 x176001_2 (⟨t191, t197⟩ : S29) [.string t191, .string t197] (fun k_ => k_ ≠ gb196) (fun _ => False) rfl (by first | (go_simp; done) | (go_simp; rfl)) ?aP (fun _ hk => hk.elim) ?aF ?aO ?aB ?aS ?aL ?_; (case aP => exact k29_mkM _ _ _ (⟨t191, t197⟩ : S29)); (case aB => exact (by repeat (first | (with_reducible first | exact HB.out | apply below_alloc | apply pw_below_drewN | apply below_drew1 | refine below_set ?_ (IsS66.ge HI174.out) | refine below_set ?_ GE169.out | refine below_set ?_ GE175.out | refine below_set ?_ GE196.out) | exact HB.out))); (case aF => exact (fun k_ hk => Kd.freshB (g := gb196) (o := .cells #[.string t191, .string t197] 29 (0, 0)) (by (with_reducible repeat (first | refine blk_drewN ?_ _ | refine blk_drew ?_ | refine blk_alloc ?_ _)); refine blk_far ?_ NB196_175.out _; (with_reducible repeat (first | refine blk_drewN ?_ _ | refine blk_drew ?_ | refine blk_alloc ?_ _)); exact BK196.out) k_ hk)); (case aO => exact (by (with_reducible repeat (first | apply Kd.R_alloc | apply Kd.R_drewN | apply Kd.R_drew)); exact Kd.R_mono (Kd.R_far (p := ⟨gb175, 2, none⟩) (Kd.R_types HO_176001.out BK175.out (by decide)) (fun _ hk => hk.2) (.slice Ao50 y207.length co50)) (fun _ hk => hk.1))); (case aS => exact (below_size (by repeat (first | (with_reducible first | exact HB.out | apply below_alloc | apply pw_below_drewN | apply below_drew1 | refine below_set ?_ (IsS66.ge HI174.out) | refine below_set ?_ GE169.out | refine below_set ?_ GE175.out | refine below_set ?_ GE196.out) | exact HB.out)))); (case aL => have := LMc34.out; omega); intro v211 w54 ho hb hg hat; rw [← Ny210.out] at ho; have n0_ := Aside0.mk (blk_grown (g := gb169) (o := .cells #[.int .i64 x170000_3, .slice none 0 0, .slice none 0 0] 25 (0, 0)) (by (with_reducible repeat (first | refine blk_drewN ?_ _ | refine blk_drew ?_ | refine blk_alloc ?_ _)); refine blk_far ?_ NB169_175.out _; (with_reducible repeat (first | refine blk_drewN ?_ _ | refine blk_drew ?_ | refine blk_alloc ?_ _)); exact BK169.out) hg (Kd.R_ne HO_176001.out BK169.out (by decide))); have n1_ := Aside0.mk (blk_grown (g := gb175) (o := .cells #[.int .i64 x176000_3, u176001, .slice Ao50 y207.length co50] 25 (0, 0)) (by (with_reducible repeat (first | refine blk_drewN ?_ _ | refine blk_drew ?_ | refine blk_alloc ?_ _)); refine blk_put (cs := #[.int .i64 x176000_3, u176001, u176002]) ?_ 2 _ rfl; (with_reducible repeat (first | refine blk_drewN ?_ _ | refine blk_drew ?_ | refine blk_alloc ?_ _)); exact BK175.out) hg (Kd.R_ne HO_176001.out BK175.out (by decide))); have n2_ := Aside0.mk (IsS66.grown (by first | exact HI174.out | exact IsS66.far HI174.out NB174_169.out _ | exact IsS66.far HI174.out NB174_175.out _ | exact IsS66.far HI174.out NB174_196.out _ | (repeat (first | (with_reducible first | exact HI174.out | apply IsS66.alloc | apply IsS66.drewN | apply IsS66.drew | apply IsS66.set_0 | apply IsS66.set_1 | apply IsS66.set_2 | apply IsS66.set_3 | refine IsS66.far ?_ NB174_169.out _ | refine IsS66.far ?_ NB174_175.out _ | refine IsS66.far ?_ NB174_196.out _) | exact HI174.out))) hg (IsS66.own_ne HI174.out HO_176001.out (by decide))); have n3_ := Aside0.mk (blk_grown (g := gb196) (o := .cells #[.string t191, .string t197] 29 (0, 0)) (by (with_reducible repeat (first | refine blk_drewN ?_ _ | refine blk_drew ?_ | refine blk_alloc ?_ _)); refine blk_far ?_ NB196_175.out _; (with_reducible repeat (first | refine blk_drewN ?_ _ | refine blk_drew ?_ | refine blk_alloc ?_ _)); exact BK196.out) hg (Kd.R_away HO_176001.out (fun _ hk => hk))); have n4_ := Aside0.mk (Kd.R_over' (by (with_reducible repeat (first | apply Kd.R_alloc | apply Kd.R_drewN | apply Kd.R_drew)); exact (Kd.R_mono (Kd.R_far (p := ⟨gb175, 2, none⟩) (Kd.R_types HO209.out BK175.out (by decide)) (fun _ hk => hk.2) (.slice Ao50 y207.length co50)) (fun _ h_ => h_.1))) (Kd.R_typed (by (with_reducible repeat (first | apply Kd.R_alloc | apply Kd.R_drewN | apply Kd.R_drew)); exact (Kd.R_mono (Kd.R_far (p := ⟨gb175, 2, none⟩) (Kd.R_types HO_176001.out BK175.out (by decide)) (fun _ hk => hk.2) (.slice Ao50 y207.length co50)) (fun _ h_ => h_.1)))) (by decide) hg); have n5_ := Aside0.mk (hb); have n6_ := Aside0.mk (ho); clear BK169; clear BK175; clear HI174; clear BK196; clear HO209; clear HB; clear HO_176001; have BK169 := n0_; have BK175 := n1_; have HI174 := n2_; have BK196 := n3_; have HO209 := n4_; have HB := n5_; have HO212 := n6_; clear n0_ n1_ n2_ n3_ n4_ n5_ n6_; clear ho hb hg hat; obtain ⟨Ao55, co55, eo55⟩ := Kd.R_slice HO212.out; subst eo55; have hcz56_0 : w54.cell? ⟨gb175, 0, none⟩ = some (.int .i64 x176000_3) := (blk_cell BK175.out 0).trans rfl; have hcz56_1 : w54.cell? ⟨gb175, 1, none⟩ = some (u176001) := (blk_cell BK175.out 1).trans rfl; have hcz56_2 : w54.cell? ⟨gb175, 2, none⟩ = some (.slice Ao50 y207.length co50) := (blk_cell BK175.out 2).trans rfl; have hfz56_0 := blk_frozen BK175.out 0; have hfz56_1 := blk_frozen BK175.out 1; have hfz56_2 := blk_frozen BK175.out 2))
                  go_roundg k2
                  case measure => have := HJ3.out; have := HK2.out; omega
                  case rel => exact ⟨(wrap64 (x25_2 + 1)), (t203), (t204), (t205), (t206), (y210), (y207), (.slice Ao55 y210.length co55), (.slice Ao50 y207.length co50), (by first | rfl | (simp; done) | (simp [*]; done) | (simp [M.isEmpty_bne]; done)), H', ⟨by have := HJ3.out; have := HK2.out; omega⟩, ⟨by (with_reducible repeat (first | apply Kd.R_alloc | apply Kd.R_drewN | apply Kd.R_drew)); exact Kd.R_mono (Kd.R_far (p := ⟨gb175, 1, none⟩) (Kd.R_types HO212.out BK175.out (by decide)) (fun _ hk => hk.2) (.slice Ao55 y210.length co55)) (fun _ hk => trivial)⟩, ⟨by (with_reducible repeat (first | apply Kd.R_alloc | apply Kd.R_drewN | apply Kd.R_drew)); exact Kd.R_mono (Kd.R_far (p := ⟨gb175, 1, none⟩) (Kd.R_types HO209.out BK175.out (by decide)) (fun _ hk => hk.2) (.slice Ao55 y210.length co55)) (fun _ hk => trivial)⟩, ⟨by (with_reducible repeat (first | refine blk_drewN ?_ _ | refine blk_drew ?_ | refine blk_alloc ?_ _)); refine blk_far ?_ NB169_175.out _; (with_reducible repeat (first | refine blk_drewN ?_ _ | refine blk_drew ?_ | refine blk_alloc ?_ _)); exact BK169.out⟩, ⟨by (with_reducible repeat (first | refine blk_drewN ?_ _ | refine blk_drew ?_ | refine blk_alloc ?_ _)); refine blk_put (cs := #[.int .i64 x176000_3, u176001, .slice Ao50 y207.length co50]) ?_ 1 _ rfl; (with_reducible repeat (first | refine blk_drewN ?_ _ | refine blk_drew ?_ | refine blk_alloc ?_ _)); exact BK175.out⟩, ⟨by repeat (first | (with_reducible first | exact HI174.out | apply IsS66.alloc | apply IsS66.drewN | apply IsS66.drew | apply IsS66.set_0 | apply IsS66.set_1 | apply IsS66.set_2 | apply IsS66.set_3 | refine IsS66.far ?_ NB174_169.out _ | refine IsS66.far ?_ NB174_175.out _ | refine IsS66.far ?_ NB174_196.out _) | exact HI174.out)⟩, ⟨by repeat (first | (with_reducible first | exact HB.out | apply below_alloc | apply pw_below_drewN | apply below_drew1 | refine below_set ?_ (IsS66.ge HI174.out) | refine below_set ?_ GE169.out | refine below_set ?_ GE175.out | refine below_set ?_ GE196.out) | exact HB.out)⟩⟩
                · rw [if_neg c34] at H
                  exact absurd H (by simp)
              · rw [if_neg c33] at H
                exact absurd H (by simp)
            · rw [if_neg c30] at H
              have c30b0 : decide (0 < x176000_3) = false := decide_eq_false c30
              clear c30
              replace H := Option.bind_eq_some_iff.mp H
              obtain ⟨⟨t213, t214, t215, t216, t217⟩, A570, H⟩ := H
              replace H : (if x176001_2.length < 4398046511104 then (chunk_Take_p.l0 k2 t186 (wrap64 (x25_2 + 1)) t214 t215 t216 t217 x176000_3 (x176001_2 ++ [(⟨t191, t213⟩ : S29)]) x176002_2) else (none)) = some (r1, r2, r3, r4) := H
              have A57 := Aside0.mk A570
              clear A570
              by_cases c58 : x176001_2.length < 4398046511104
              · rw [if_pos c58] at H
                have LMc58 := Aside0.mk c58
                clear c58
                obtain ⟨y218, hy218⟩ : ∃ y_ : List (S29), y_ = (x176001_2 ++ [(⟨t191, t213⟩ : S29)]) := ⟨_, rfl⟩
                replace H : (chunk_Take_p.l0 k2 t186 (wrap64 (x25_2 + 1)) t214 t215 t216 t217 x176000_3 y218 x176002_2) = some (r1, r2, r3, r4) := by first | (rw [hy218]; with_reducible exact H) | (have H2_ := (Option.bind_some _ _).symm.trans H; rw [hy218]; with_reducible exact H2_) | (have H2_ := (Option.bind_some _ _).symm.trans H; with_reducible exact H2_) | with_reducible exact H | (rw [hy218]; exact H) | exact H
                have Ny218 := Aside0.mk hy218
                clear hy218
                have H' := Aside0.mk H
                clear H
                go_wp2_with (first | ((with_reducible refine gate_callee (f := 21) rfl ?_); refine goesL_ (some 28) rfl rfl Try.func21 (by kernel_rfl) rfl #[.pointer (some ⟨g174, 0, none⟩), .int .i64 64] rfl (by (try simp only [List.map_toArray, List.map_cons, List.map_nil]); first | done | rfl | (simp only [List.length_drop, List.length_take]; rfl)) ?_; (with_reducible refine (scan_Scan_Text.calls g174 x175000_2 x175001_2 x175002_2 x175003_2 64 t191 t192 t193 t194 t195 w _ ?side1 ?side2 A29.out).mono ?_); (case side1 => repeat (first | (with_reducible first | exact HI174.out | apply IsS66.alloc | apply IsS66.drewN | apply IsS66.drew | apply IsS66.set_0 | apply IsS66.set_1 | apply IsS66.set_2 | apply IsS66.set_3 | refine IsS66.far ?_ NB174_169.out _ | refine IsS66.far ?_ NB174_175.out _) | exact HI174.out)); (case side2 => repeat (first | (with_reducible first | exact HB.out | apply below_alloc | apply pw_below_drewN | apply below_drew1 | refine below_set ?_ (IsS66.ge HI174.out) | refine below_set ?_ GE169.out | refine below_set ?_ GE175.out) | exact HB.out)); rintro e w59 ⟨rfl, hi, hb, hk⟩; refine ⟨_, rfl, ?_⟩; have n0_ := Aside0.mk (Kd.R_mono (Kd.R_keep (IsS66.apart (show IsS66 w _ g174 x175000_2 x175001_2 x175002_2 x175003_2 from by repeat (first | (with_reducible first | exact HI174.out | apply IsS66.alloc | apply IsS66.drewN | apply IsS66.drew | apply IsS66.set_0 | apply IsS66.set_1 | apply IsS66.set_2 | apply IsS66.set_3 | refine IsS66.far ?_ NB174_169.out _ | refine IsS66.far ?_ NB174_175.out _) | exact HI174.out)) (by (with_reducible repeat (first | apply Kd.R_alloc | apply Kd.R_drewN | apply Kd.R_drew)); exact HO_176001.out) (by decide)) hk (fun _ h => h.2)) (fun _ h => h.1)); have n1_ := Aside0.mk (Kd.R_mono (Kd.R_keep (IsS66.apart (show IsS66 w _ g174 x175000_2 x175001_2 x175002_2 x175003_2 from by repeat (first | (with_reducible first | exact HI174.out | apply IsS66.alloc | apply IsS66.drewN | apply IsS66.drew | apply IsS66.set_0 | apply IsS66.set_1 | apply IsS66.set_2 | apply IsS66.set_3 | refine IsS66.far ?_ NB174_169.out _ | refine IsS66.far ?_ NB174_175.out _) | exact HI174.out)) (by (with_reducible repeat (first | apply Kd.R_alloc | apply Kd.R_drewN | apply Kd.R_drew)); exact HO_176002.out) (by decide)) hk (fun _ h => h.2)) (fun _ h => h.1)); have n2_ := Aside0.mk (KeepBut.blk hk (g' := gb169) (o := .cells #[.int .i64 x170000_3, .slice none 0 0, .slice none 0 0] 25 (0, 0)) (by (with_reducible repeat (first | refine blk_drewN ?_ _ | refine blk_drew ?_ | refine blk_alloc ?_ _)); exact BK169.out) NB169_174.out (by simp)); have n3_ := Aside0.mk (KeepBut.blk hk (g' := gb175) (o := .cells #[.int .i64 x176000_3, u176001, u176002] 25 (0, 0)) (by (with_reducible repeat (first | refine blk_drewN ?_ _ | refine blk_drew ?_ | refine blk_alloc ?_ _)); exact BK175.out) NB175_174.out (by simp)); have n4_ := Aside0.mk (hb); have n5_ := Aside0.mk (hi); clear HO_176001; clear HO_176002; clear BK169; clear BK175; clear HB; clear HI174; have HO_176001 := n0_; have HO_176002 := n1_; have BK169 := n2_; have BK175 := n3_; have HB := n4_; have HI174 := n5_; clear n0_ n1_ n2_ n3_ n4_ n5_; (try clear hb); (try clear hb2); (try clear hk); (try clear hi)) | ((with_reducible refine gate_dst (N := 6) rfl ?_); refine box_event ?hg (N := 6) ?hd (cs := #[.string (⟨#[]⟩ : ByteArray), .string (⟨#[]⟩ : ByteArray)]) (t := 29) ?hr ?_; (case hd => rfl); (case hg => rfl); (case hr => first | (go_simp; done) | (go_simp; rfl)); intro gb196 hg w60 hbox hb; have n0_ := Aside0.mk (Kd.R_below (Kd.R_elderB (by (with_reducible repeat (first | apply Kd.R_alloc | apply Kd.R_drewN | apply Kd.R_drew)); exact HO_176001.out) gb196 (Nat.le_of_eq hg.symm)) hb); have n1_ := Aside0.mk (Kd.R_below (by (with_reducible repeat (first | apply Kd.R_alloc | apply Kd.R_drewN | apply Kd.R_drew)); exact HO_176002.out) hb); have n2_ := Aside0.mk (blk_below (g := gb169) (o := .cells #[.int .i64 x170000_3, .slice none 0 0, .slice none 0 0] 25 (0, 0)) (by (with_reducible repeat (first | refine blk_drewN ?_ _ | refine blk_drew ?_ | refine blk_alloc ?_ _)); exact BK169.out) hb); have n3_ := Aside0.mk (blk_below (g := gb175) (o := .cells #[.int .i64 x176000_3, u176001, u176002] 25 (0, 0)) (by (with_reducible repeat (first | refine blk_drewN ?_ _ | refine blk_drew ?_ | refine blk_alloc ?_ _)); exact BK175.out) hb); have n4_ := Aside0.mk (IsS66.below (by repeat (first | (with_reducible first | exact HI174.out | apply IsS66.alloc | apply IsS66.drewN | apply IsS66.drew | apply IsS66.set_0 | apply IsS66.set_1 | apply IsS66.set_2 | apply IsS66.set_3 | refine IsS66.far ?_ NB174_169.out _ | refine IsS66.far ?_ NB174_175.out _) | exact HI174.out)) hb); have n5_ := Aside0.mk (below_step (by repeat (first | (with_reducible first | exact HB.out | apply below_alloc | apply pw_below_drewN | apply below_drew1 | refine below_set ?_ (IsS66.ge HI174.out) | refine below_set ?_ GE169.out | refine below_set ?_ GE175.out) | exact HB.out)) hb); have n6_ := Aside0.mk (hbox); have n7_ := Aside0.mk ((by rw [hg]; exact (below_size (by repeat (first | (with_reducible first | exact HB.out | apply below_alloc | apply pw_below_drewN | apply below_drew1 | refine below_set ?_ (IsS66.ge HI174.out) | refine below_set ?_ GE169.out | refine below_set ?_ GE175.out) | exact HB.out))) : w.heap.size ≤ gb196)); have n8_ := Aside0.mk ((by rw [hg]; exact (below_size (by repeat (first | (with_reducible first | exact HB.out | apply below_alloc | apply pw_below_drewN | apply below_drew1 | refine below_set ?_ (IsS66.ge HI174.out) | refine below_set ?_ GE169.out | refine below_set ?_ GE175.out) | exact HB.out))) : w.heap.size ≤ gb196)); have n9_ := Aside0.mk ((by rw [hg]; exact Nat.ne_of_lt (blk_lt (g := gb169) (o := .cells #[.int .i64 x170000_3, .slice none 0 0, .slice none 0 0] 25 (0, 0)) (by (with_reducible repeat (first | refine blk_drewN ?_ _ | refine blk_drew ?_ | refine blk_alloc ?_ _)); exact BK169.out)) : gb169 ≠ gb196)); have n10_ := Aside0.mk ((by rw [hg]; exact Nat.ne_of_gt (blk_lt (g := gb169) (o := .cells #[.int .i64 x170000_3, .slice none 0 0, .slice none 0 0] 25 (0, 0)) (by (with_reducible repeat (first | refine blk_drewN ?_ _ | refine blk_drew ?_ | refine blk_alloc ?_ _)); exact BK169.out)) : gb196 ≠ gb169)); have n11_ := Aside0.mk ((by rw [hg]; exact Nat.ne_of_lt (blk_lt (g := gb175) (o := .cells #[.int .i64 x176000_3, u176001, u176002] 25 (0, 0)) (by (with_reducible repeat (first | refine blk_drewN ?_ _ | refine blk_drew ?_ | refine blk_alloc ?_ _)); exact BK175.out)) : gb175 ≠ gb196)); have n12_ := Aside0.mk ((by rw [hg]; exact Nat.ne_of_gt (blk_lt (g := gb175) (o := .cells #[.int .i64 x176000_3, u176001, u176002] 25 (0, 0)) (by (with_reducible repeat (first | refine blk_drewN ?_ _ | refine blk_drew ?_ | refine blk_alloc ?_ _)); exact BK175.out)) : gb196 ≠ gb175)); have n13_ := Aside0.mk ((by rw [hg]; exact Nat.ne_of_lt (IsS66.lt (show IsS66 w _ g174 t192 t193 t194 t195 from by repeat (first | (with_reducible first | exact HI174.out | apply IsS66.alloc | apply IsS66.drewN | apply IsS66.drew | apply IsS66.set_0 | apply IsS66.set_1 | apply IsS66.set_2 | apply IsS66.set_3 | refine IsS66.far ?_ NB174_169.out _ | refine IsS66.far ?_ NB174_175.out _) | exact HI174.out))) : g174 ≠ gb196)); have n14_ := Aside0.mk ((by rw [hg]; exact Nat.ne_of_gt (IsS66.lt (show IsS66 w _ g174 t192 t193 t194 t195 from by repeat (first | (with_reducible first | exact HI174.out | apply IsS66.alloc | apply IsS66.drewN | apply IsS66.drew | apply IsS66.set_0 | apply IsS66.set_1 | apply IsS66.set_2 | apply IsS66.set_3 | refine IsS66.far ?_ NB174_169.out _ | refine IsS66.far ?_ NB174_175.out _) | exact HI174.out))) : gb196 ≠ g174)); clear HO_176001; clear HO_176002; clear BK169; clear BK175; clear HI174; clear HB; have HO_176001 := n0_; have HO_176002 := n1_; have BK169 := n2_; have BK175 := n3_; have HI174 := n4_; have HB := n5_; have BK196 := n6_; have GW196 := n7_; have GE196 := n8_; have NB169_196 := n9_; have NB196_169 := n10_; have NB175_196 := n11_; have NB196_175 := n12_; have NB174_196 := n13_; have NB196_174 := n14_; clear n0_ n1_ n2_ n3_ n4_ n5_ n6_ n7_ n8_ n9_ n10_ n11_ n12_ n13_ n14_; clear hb hbox hg; have hnb61 := NB196_169.out; have hnc61 := NB169_196.out; have hnb62 := NB196_175.out; have hnc62 := NB175_196.out; have hnb63 := NB196_174.out; have hnc63 := NB174_196.out; have hcz64_0 : w60.cell? ⟨gb196, 0, none⟩ = some (.string (⟨#[]⟩ : ByteArray)) := (blk_cell BK196.out 0).trans rfl; have hcz64_1 : w60.cell? ⟨gb196, 1, none⟩ = some (.string (⟨#[]⟩ : ByteArray)) := (blk_cell BK196.out 1).trans rfl; have hfz64_0 := blk_frozen BK196.out 0; have hfz64_1 := blk_frozen BK196.out 1; have hnb65 := NB175_169.out; have hnc65 := NB169_175.out; have hnb66 := NB175_174.out; have hnc66 := NB174_175.out; have hcz67_0 : w60.cell? ⟨gb175, 0, none⟩ = some (.int .i64 x176000_3) := (blk_cell BK175.out 0).trans rfl; have hcz67_1 : w60.cell? ⟨gb175, 1, none⟩ = some (u176001) := (blk_cell BK175.out 1).trans rfl; have hcz67_2 : w60.cell? ⟨gb175, 2, none⟩ = some (u176002) := (blk_cell BK175.out 2).trans rfl; have hfz67_0 := blk_frozen BK175.out 0; have hfz67_1 := blk_frozen BK175.out 1; have hfz67_2 := blk_frozen BK175.out 2) | ((with_reducible refine gate_callee (f := 21) rfl ?_); refine goesL_ (some 44) rfl rfl Try.func21 (by kernel_rfl) rfl #[.pointer (some ⟨g174, 0, none⟩), .int .i64 2048] rfl (by (try simp only [List.map_toArray, List.map_cons, List.map_nil]); first | done | rfl | (simp only [List.length_drop, List.length_take]; rfl)) ?_; (with_reducible refine (scan_Scan_Text.calls g174 t192 t193 t194 t195 2048 t213 t214 t215 t216 t217 w _ ?side1 ?side2 A57.out).mono ?_); (case side1 => repeat (first | (with_reducible first | exact HI174.out | apply IsS66.alloc | apply IsS66.drewN | apply IsS66.drew | apply IsS66.set_0 | apply IsS66.set_1 | apply IsS66.set_2 | apply IsS66.set_3 | refine IsS66.far ?_ NB174_169.out _ | refine IsS66.far ?_ NB174_175.out _ | refine IsS66.far ?_ NB174_196.out _) | exact HI174.out)); (case side2 => repeat (first | (with_reducible first | exact HB.out | apply below_alloc | apply pw_below_drewN | apply below_drew1 | refine below_set ?_ (IsS66.ge HI174.out) | refine below_set ?_ GE169.out | refine below_set ?_ GE175.out | refine below_set ?_ GE196.out) | exact HB.out)); rintro e w68 ⟨rfl, hi, hb, hk⟩; refine ⟨_, rfl, ?_⟩; have n0_ := Aside0.mk (Kd.R_mono (Kd.R_keep (IsS66.apart (show IsS66 w _ g174 t192 t193 t194 t195 from by repeat (first | (with_reducible first | exact HI174.out | apply IsS66.alloc | apply IsS66.drewN | apply IsS66.drew | apply IsS66.set_0 | apply IsS66.set_1 | apply IsS66.set_2 | apply IsS66.set_3 | refine IsS66.far ?_ NB174_169.out _ | refine IsS66.far ?_ NB174_175.out _ | refine IsS66.far ?_ NB174_196.out _) | exact HI174.out)) (by (with_reducible repeat (first | apply Kd.R_alloc | apply Kd.R_drewN | apply Kd.R_drew)); exact (Kd.R_mono (Kd.R_far (p := ⟨gb196, 1, none⟩) (Kd.R_far (p := ⟨gb196, 0, none⟩) (Kd.R_mono HO_176001.out (fun k_ hk => (⟨hk, hk.2⟩ : _ ∧ k_ ≠ gb196))) (fun _ hk => hk.2) (.string t191)) (fun _ hk => hk.2) (.string (⟨#[]⟩ : ByteArray))) (fun _ h_ => h_.1))) (by decide)) hk (fun _ h => h.2)) (fun _ h => h.1)); have n1_ := Aside0.mk (Kd.R_mono (Kd.R_keep (IsS66.apart (show IsS66 w _ g174 t192 t193 t194 t195 from by repeat (first | (with_reducible first | exact HI174.out | apply IsS66.alloc | apply IsS66.drewN | apply IsS66.drew | apply IsS66.set_0 | apply IsS66.set_1 | apply IsS66.set_2 | apply IsS66.set_3 | refine IsS66.far ?_ NB174_169.out _ | refine IsS66.far ?_ NB174_175.out _ | refine IsS66.far ?_ NB174_196.out _) | exact HI174.out)) (by (with_reducible repeat (first | apply Kd.R_alloc | apply Kd.R_drewN | apply Kd.R_drew)); exact (Kd.R_mono (Kd.R_far (p := ⟨gb196, 1, none⟩) (Kd.R_far (p := ⟨gb196, 0, none⟩) (Kd.R_types HO_176002.out BK196.out (by decide)) (fun _ hk => hk.2) (.string t191)) (fun _ hk => hk.2) (.string (⟨#[]⟩ : ByteArray))) (fun _ h_ => h_.1))) (by decide)) hk (fun _ h => h.2)) (fun _ h => h.1)); have n2_ := Aside0.mk (KeepBut.blk hk (g' := gb169) (o := .cells #[.int .i64 x170000_3, .slice none 0 0, .slice none 0 0] 25 (0, 0)) (by (with_reducible repeat (first | refine blk_drewN ?_ _ | refine blk_drew ?_ | refine blk_alloc ?_ _)); refine blk_far ?_ NB169_196.out _; (with_reducible repeat (first | refine blk_drewN ?_ _ | refine blk_drew ?_ | refine blk_alloc ?_ _)); refine blk_far ?_ NB169_196.out _; (with_reducible repeat (first | refine blk_drewN ?_ _ | refine blk_drew ?_ | refine blk_alloc ?_ _)); exact BK169.out) NB169_174.out (by simp)); have n3_ := Aside0.mk (KeepBut.blk hk (g' := gb175) (o := .cells #[.int .i64 x176000_3, u176001, u176002] 25 (0, 0)) (by (with_reducible repeat (first | refine blk_drewN ?_ _ | refine blk_drew ?_ | refine blk_alloc ?_ _)); refine blk_far ?_ NB175_196.out _; (with_reducible repeat (first | refine blk_drewN ?_ _ | refine blk_drew ?_ | refine blk_alloc ?_ _)); refine blk_far ?_ NB175_196.out _; (with_reducible repeat (first | refine blk_drewN ?_ _ | refine blk_drew ?_ | refine blk_alloc ?_ _)); exact BK175.out) NB175_174.out (by simp)); have n4_ := Aside0.mk (KeepBut.blk hk (g' := gb196) (o := .cells #[.string t191, .string (⟨#[]⟩ : ByteArray)] 29 (0, 0)) (by (with_reducible repeat (first | refine blk_drewN ?_ _ | refine blk_drew ?_ | refine blk_alloc ?_ _)); refine blk_put (cs := #[.string t191, .string (⟨#[]⟩ : ByteArray)]) ?_ 1 _ rfl; (with_reducible repeat (first | refine blk_drewN ?_ _ | refine blk_drew ?_ | refine blk_alloc ?_ _)); refine blk_put (cs := #[.string (⟨#[]⟩ : ByteArray), .string (⟨#[]⟩ : ByteArray)]) ?_ 0 _ rfl; (with_reducible repeat (first | refine blk_drewN ?_ _ | refine blk_drew ?_ | refine blk_alloc ?_ _)); exact BK196.out) NB196_174.out (by simp)); have n5_ := Aside0.mk (hb); have n6_ := Aside0.mk (hi); clear HO_176001; clear HO_176002; clear BK169; clear BK175; clear BK196; clear HB; clear HI174; have HO_176001 := n0_; have HO_176002 := n1_; have BK169 := n2_; have BK175 := n3_; have BK196 := n4_; have HB := n5_; have HI174 := n6_; clear n0_ n1_ n2_ n3_ n4_ n5_ n6_; (try clear hb); (try clear hb2); (try clear hk); (try clear hi); have hcz69_0 : w68.cell? ⟨gb196, 0, none⟩ = some (.string t191) := (blk_cell BK196.out 0).trans rfl; have hcz69_1 : w68.cell? ⟨gb196, 1, none⟩ = some (.string (⟨#[]⟩ : ByteArray)) := (blk_cell BK196.out 1).trans rfl; have hfz69_0 := blk_frozen BK196.out 0; have hfz69_1 := blk_frozen BK196.out 1; have hcz70_0 : w68.cell? ⟨gb175, 0, none⟩ = some (.int .i64 x176000_3) := (blk_cell BK175.out 0).trans rfl; have hcz70_1 : w68.cell? ⟨gb175, 1, none⟩ = some (u176001) := (blk_cell BK175.out 1).trans rfl; have hcz70_2 : w68.cell? ⟨gb175, 2, none⟩ = some (u176002) := (blk_cell BK175.out 2).trans rfl; have hfz70_0 := blk_frozen BK175.out 0; have hfz70_1 := blk_frozen BK175.out 1; have hfz70_2 := blk_frozen BK175.out 2) | ((with_reducible refine gate_builtin (b := .append) (xs := #[.tmp 47, .tmp 49]) rfl ?_); at_builtin; refine Kd.R_append k29 (w0 := w) w.heap.size rfl (.tmp 47) (.tmp 49) 22 29 (.agg #[(.string ⟨#[]⟩), (.string ⟨#[]⟩)]) 32 rfl Try.underlying22 info29 rfl (by decide) (by omega) u176001 x176001_2 (⟨t191, t213⟩ : S29) [.string t191, .string t213] (fun k_ => k_ ≠ gb196) (fun _ => False) rfl (by first | (go_simp; done) | (go_simp; rfl)) ?aP (fun _ hk => hk.elim) ?aF ?aO ?aB ?aS ?aL ?_; (case aP => exact k29_mkM _ _ _ (⟨t191, t213⟩ : S29)); (case aB => exact (by repeat (first | (with_reducible first | exact HB.out | apply below_alloc | apply pw_below_drewN | apply below_drew1 | refine below_set ?_ (IsS66.ge HI174.out) | refine below_set ?_ GE169.out | refine below_set ?_ GE175.out | refine below_set ?_ GE196.out) | exact HB.out))); (case aF => exact (fun k_ hk => Kd.freshB (g := gb196) (o := .cells #[.string t191, .string t213] 29 (0, 0)) (by (with_reducible repeat (first | refine blk_drewN ?_ _ | refine blk_drew ?_ | refine blk_alloc ?_ _)); refine blk_put (cs := #[.string t191, .string (⟨#[]⟩ : ByteArray)]) ?_ 1 _ rfl; (with_reducible repeat (first | refine blk_drewN ?_ _ | refine blk_drew ?_ | refine blk_alloc ?_ _)); exact BK196.out) k_ hk)); (case aO => exact (by (with_reducible repeat (first | apply Kd.R_alloc | apply Kd.R_drewN | apply Kd.R_drew)); exact Kd.R_mono (Kd.R_far (p := ⟨gb196, 1, none⟩) (Kd.R_mono HO_176001.out (fun k_ hk => (⟨hk, hk.2⟩ : _ ∧ k_ ≠ gb196))) (fun _ hk => hk.2) (.string t213)) (fun _ hk => hk.1.2))); (case aS => exact (below_size (by repeat (first | (with_reducible first | exact HB.out | apply below_alloc | apply pw_below_drewN | apply below_drew1 | refine below_set ?_ (IsS66.ge HI174.out) | refine below_set ?_ GE169.out | refine below_set ?_ GE175.out | refine below_set ?_ GE196.out) | exact HB.out)))); (case aL => have := LMc58.out; omega); intro v219 w71 ho hb hg hat; rw [← Ny218.out] at ho; have n0_ := Aside0.mk (Kd.R_over' (by (with_reducible repeat (first | apply Kd.R_alloc | apply Kd.R_drewN | apply Kd.R_drew)); exact (Kd.R_mono (Kd.R_far (p := ⟨gb196, 1, none⟩) (Kd.R_types HO_176002.out BK196.out (by decide)) (fun _ hk => hk.2) (.string t213)) (fun _ h_ => h_.1))) (Kd.R_typed (by (with_reducible repeat (first | apply Kd.R_alloc | apply Kd.R_drewN | apply Kd.R_drew)); exact (Kd.R_mono (Kd.R_far (p := ⟨gb196, 1, none⟩) (Kd.R_mono HO_176001.out (fun k_ hk => (⟨hk, hk.2⟩ : _ ∧ k_ ≠ gb196))) (fun _ hk => hk.2) (.string t213)) (fun _ h_ => h_.1)))) (by decide) hg); have n1_ := Aside0.mk (blk_grown (g := gb169) (o := .cells #[.int .i64 x170000_3, .slice none 0 0, .slice none 0 0] 25 (0, 0)) (by (with_reducible repeat (first | refine blk_drewN ?_ _ | refine blk_drew ?_ | refine blk_alloc ?_ _)); refine blk_far ?_ NB169_196.out _; (with_reducible repeat (first | refine blk_drewN ?_ _ | refine blk_drew ?_ | refine blk_alloc ?_ _)); exact BK169.out) hg (Kd.R_ne HO_176001.out BK169.out (by decide))); have n2_ := Aside0.mk (blk_grown (g := gb175) (o := .cells #[.int .i64 x176000_3, u176001, u176002] 25 (0, 0)) (by (with_reducible repeat (first | refine blk_drewN ?_ _ | refine blk_drew ?_ | refine blk_alloc ?_ _)); refine blk_far ?_ NB175_196.out _; (with_reducible repeat (first | refine blk_drewN ?_ _ | refine blk_drew ?_ | refine blk_alloc ?_ _)); exact BK175.out) hg (Kd.R_ne HO_176001.out BK175.out (by decide))); have n3_ := Aside0.mk (IsS66.grown (by first | exact HI174.out | exact IsS66.far HI174.out NB174_169.out _ | exact IsS66.far HI174.out NB174_175.out _ | exact IsS66.far HI174.out NB174_196.out _ | (repeat (first | (with_reducible first | exact HI174.out | apply IsS66.alloc | apply IsS66.drewN | apply IsS66.drew | apply IsS66.set_0 | apply IsS66.set_1 | apply IsS66.set_2 | apply IsS66.set_3 | refine IsS66.far ?_ NB174_169.out _ | refine IsS66.far ?_ NB174_175.out _ | refine IsS66.far ?_ NB174_196.out _) | exact HI174.out))) hg (IsS66.own_ne HI174.out HO_176001.out (by decide))); have n4_ := Aside0.mk (blk_grown (g := gb196) (o := .cells #[.string t191, .string t213] 29 (0, 0)) (by (with_reducible repeat (first | refine blk_drewN ?_ _ | refine blk_drew ?_ | refine blk_alloc ?_ _)); refine blk_put (cs := #[.string t191, .string (⟨#[]⟩ : ByteArray)]) ?_ 1 _ rfl; (with_reducible repeat (first | refine blk_drewN ?_ _ | refine blk_drew ?_ | refine blk_alloc ?_ _)); exact BK196.out) hg (Kd.R_away HO_176001.out (fun _ hk => hk.2))); have n5_ := Aside0.mk (hb); have n6_ := Aside0.mk (ho); clear HO_176002; clear BK169; clear BK175; clear HI174; clear BK196; clear HB; clear HO_176001; have HO_176002 := n0_; have BK169 := n1_; have BK175 := n2_; have HI174 := n3_; have BK196 := n4_; have HB := n5_; have HO220 := n6_; clear n0_ n1_ n2_ n3_ n4_ n5_ n6_; clear ho hb hg hat; obtain ⟨Ao72, co72, eo72⟩ := Kd.R_slice HO220.out; subst eo72; have hcz73_0 : w71.cell? ⟨gb175, 0, none⟩ = some (.int .i64 x176000_3) := (blk_cell BK175.out 0).trans rfl; have hcz73_1 : w71.cell? ⟨gb175, 1, none⟩ = some (u176001) := (blk_cell BK175.out 1).trans rfl; have hcz73_2 : w71.cell? ⟨gb175, 2, none⟩ = some (u176002) := (blk_cell BK175.out 2).trans rfl; have hfz73_0 := blk_frozen BK175.out 0; have hfz73_1 := blk_frozen BK175.out 1; have hfz73_2 := blk_frozen BK175.out 2))
                go_roundg k2
                case measure => have := HJ3.out; have := HK2.out; omega
                case rel => exact ⟨(wrap64 (x25_2 + 1)), (t214), (t215), (t216), (t217), (y218), (x176002_2), (.slice Ao72 y218.length co72), (u176002), (by first | rfl | (simp; done) | (simp [*]; done) | (simp [M.isEmpty_bne]; done)), H', ⟨by have := HJ3.out; have := HK2.out; omega⟩, ⟨by (with_reducible repeat (first | apply Kd.R_alloc | apply Kd.R_drewN | apply Kd.R_drew)); exact Kd.R_mono (Kd.R_far (p := ⟨gb175, 1, none⟩) (Kd.R_types HO220.out BK175.out (by decide)) (fun _ hk => hk.2) (.slice Ao72 y218.length co72)) (fun _ hk => trivial)⟩, ⟨by (with_reducible repeat (first | apply Kd.R_alloc | apply Kd.R_drewN | apply Kd.R_drew)); exact Kd.R_mono (Kd.R_far (p := ⟨gb175, 1, none⟩) (Kd.R_types HO_176002.out BK175.out (by decide)) (fun _ hk => hk.2) (.slice Ao72 y218.length co72)) (fun _ hk => trivial)⟩, ⟨by (with_reducible repeat (first | refine blk_drewN ?_ _ | refine blk_drew ?_ | refine blk_alloc ?_ _)); refine blk_far ?_ NB169_175.out _; (with_reducible repeat (first | refine blk_drewN ?_ _ | refine blk_drew ?_ | refine blk_alloc ?_ _)); exact BK169.out⟩, ⟨by (with_reducible repeat (first | refine blk_drewN ?_ _ | refine blk_drew ?_ | refine blk_alloc ?_ _)); refine blk_put (cs := #[.int .i64 x176000_3, u176001, u176002]) ?_ 1 _ rfl; (with_reducible repeat (first | refine blk_drewN ?_ _ | refine blk_drew ?_ | refine blk_alloc ?_ _)); exact BK175.out⟩, ⟨by repeat (first | (with_reducible first | exact HI174.out | apply IsS66.alloc | apply IsS66.drewN | apply IsS66.drew | apply IsS66.set_0 | apply IsS66.set_1 | apply IsS66.set_2 | apply IsS66.set_3 | refine IsS66.far ?_ NB174_169.out _ | refine IsS66.far ?_ NB174_175.out _ | refine IsS66.far ?_ NB174_196.out _) | exact HI174.out)⟩, ⟨by repeat (first | (with_reducible first | exact HB.out | apply below_alloc | apply pw_below_drewN | apply below_drew1 | refine below_set ?_ (IsS66.ge HI174.out) | refine below_set ?_ GE169.out | refine below_set ?_ GE175.out | refine below_set ?_ GE196.out) | exact HB.out)⟩⟩
              · rw [if_neg c58] at H
                exact absurd H (by simp)
          · rw [if_neg c28] at H
            have c28b0 : decide (x25_2 < t186) = false := decide_eq_false c28
            clear c28
            replace H := Option.bind_eq_some_iff.mp H
            obtain ⟨⟨t221, t222, t223, t224, t225⟩, A740, H⟩ := H
            replace H : (if t221 = 0 then ((chunk_Check.f x176000_3 x176001_2 x176002_2).bind fun t226 => (if t226 = 0 then (some (x176000_3, x176001_2, x176002_2, 0)) else (some (0, ([] : List (S29)), ([] : List Int), 3)))) else (some (0, ([] : List (S29)), ([] : List Int), 3))) = some (r1, r2, r3, r4) := H
            have A74 := Aside0.mk A740
            clear A740
            by_cases c75 : t221 = 0
            · rw [if_pos c75] at H
              have c75b0 : (t221 == 0) = true := beq_iff_eq.mpr c75
              have c75b1 : (t221 != 0) = false := bne_eq_false_iff_eq.mpr c75
              clear c75
              replace H := Option.bind_eq_some_iff.mp H
              obtain ⟨t226, A760, H⟩ := H
              replace H : (if t226 = 0 then (some (x176000_3, x176001_2, x176002_2, 0)) else (some (0, ([] : List (S29)), ([] : List Int), 3))) = some (r1, r2, r3, r4) := H
              have A76 := Aside0.mk A760
              clear A760
              by_cases c77 : t226 = 0
              · rw [if_pos c77] at H
                have c77b0 : (t226 == 0) = true := beq_iff_eq.mpr c77
                have c77b1 : (t226 != 0) = false := bne_eq_false_iff_eq.mpr c77
                clear c77
                simp only [Option.some.injEq, Prod.mk.injEq] at H
                obtain ⟨rfl, rfl, rfl, rfl⟩ := H
                go_wp2_with (first | ((with_reducible refine gate_callee (f := 23) rfl ?_); refine goesL_ (some 54) rfl rfl Try.func23 (by kernel_rfl) rfl #[.pointer (some ⟨g174, 0, none⟩)] rfl (by (try simp only [List.map_toArray, List.map_cons, List.map_nil]); first | done | rfl | (simp only [List.length_drop, List.length_take]; rfl)) ?_; (with_reducible refine (scan_Scan_End.calls g174 x175000_2 x175001_2 x175002_2 x175003_2 t221 t222 t223 t224 t225 w _ ?side1 ?side2 A74.out).mono ?_); (case side1 => repeat (first | (with_reducible first | exact HI174.out | apply IsS66.alloc | apply IsS66.drewN | apply IsS66.drew | apply IsS66.set_0 | apply IsS66.set_1 | apply IsS66.set_2 | apply IsS66.set_3 | refine IsS66.far ?_ NB174_169.out _ | refine IsS66.far ?_ NB174_175.out _) | exact HI174.out)); (case side2 => repeat (first | (with_reducible first | exact HB.out | apply below_alloc | apply pw_below_drewN | apply below_drew1 | refine below_set ?_ (IsS66.ge HI174.out) | refine below_set ?_ GE169.out | refine below_set ?_ GE175.out) | exact HB.out)); rintro e w78 ⟨rfl, hi, hb, hk⟩; refine ⟨_, rfl, ?_⟩; have n0_ := Aside0.mk (Kd.R_mono (Kd.R_keep (IsS66.apart (show IsS66 w _ g174 x175000_2 x175001_2 x175002_2 x175003_2 from by repeat (first | (with_reducible first | exact HI174.out | apply IsS66.alloc | apply IsS66.drewN | apply IsS66.drew | apply IsS66.set_0 | apply IsS66.set_1 | apply IsS66.set_2 | apply IsS66.set_3 | refine IsS66.far ?_ NB174_169.out _ | refine IsS66.far ?_ NB174_175.out _) | exact HI174.out)) (by (with_reducible repeat (first | apply Kd.R_alloc | apply Kd.R_drewN | apply Kd.R_drew)); exact HO_176001.out) (by decide)) hk (fun _ h => h.2)) (fun _ h => h.1)); have n1_ := Aside0.mk (Kd.R_mono (Kd.R_keep (IsS66.apart (show IsS66 w _ g174 x175000_2 x175001_2 x175002_2 x175003_2 from by repeat (first | (with_reducible first | exact HI174.out | apply IsS66.alloc | apply IsS66.drewN | apply IsS66.drew | apply IsS66.set_0 | apply IsS66.set_1 | apply IsS66.set_2 | apply IsS66.set_3 | refine IsS66.far ?_ NB174_169.out _ | refine IsS66.far ?_ NB174_175.out _) | exact HI174.out)) (by (with_reducible repeat (first | apply Kd.R_alloc | apply Kd.R_drewN | apply Kd.R_drew)); exact HO_176002.out) (by decide)) hk (fun _ h => h.2)) (fun _ h => h.1)); have n2_ := Aside0.mk (KeepBut.blk hk (g' := gb169) (o := .cells #[.int .i64 x170000_3, .slice none 0 0, .slice none 0 0] 25 (0, 0)) (by (with_reducible repeat (first | refine blk_drewN ?_ _ | refine blk_drew ?_ | refine blk_alloc ?_ _)); exact BK169.out) NB169_174.out (by simp)); have n3_ := Aside0.mk (KeepBut.blk hk (g' := gb175) (o := .cells #[.int .i64 x176000_3, u176001, u176002] 25 (0, 0)) (by (with_reducible repeat (first | refine blk_drewN ?_ _ | refine blk_drew ?_ | refine blk_alloc ?_ _)); exact BK175.out) NB175_174.out (by simp)); have n4_ := Aside0.mk (hb); have n5_ := Aside0.mk (hi); clear HO_176001; clear HO_176002; clear BK169; clear BK175; clear HB; clear HI174; have HO_176001 := n0_; have HO_176002 := n1_; have BK169 := n2_; have BK175 := n3_; have HB := n4_; have HI174 := n5_; clear n0_ n1_ n2_ n3_ n4_ n5_; (try clear hb); (try clear hb2); (try clear hk); (try clear hi); have hnb79 := NB175_169.out; have hnc79 := NB169_175.out; have hnb80 := NB175_174.out; have hnc80 := NB174_175.out; have hcz81_0 : w78.cell? ⟨gb175, 0, none⟩ = some (.int .i64 x176000_3) := (blk_cell BK175.out 0).trans rfl; have hcz81_1 : w78.cell? ⟨gb175, 1, none⟩ = some (u176001) := (blk_cell BK175.out 1).trans rfl; have hcz81_2 : w78.cell? ⟨gb175, 2, none⟩ = some (u176002) := (blk_cell BK175.out 2).trans rfl; have hfz81_0 := blk_frozen BK175.out 0; have hfz81_1 := blk_frozen BK175.out 1; have hfz81_2 := blk_frozen BK175.out 2; obtain ⟨Ao82, co82, eo82⟩ := Kd.R_slice HO_176001.out; subst eo82; obtain ⟨Ao83, co83, eo83⟩ := Kd.R_slice HO_176002.out; subst eo83) | (go_at_call 24; (with_reducible refine (chunk_Check.calls x176000_3 _ _ x176001_2 _ _ x176002_2 t226 _ ?side1 ?side2 ?side3 ?side4 A76.out).mono ?_); (case side1 => repeat (first | exact (Kd.R_reads' HO_176001.out).2.2 | (with_reducible refine Kd.C_alloc ?_ _) | (with_reducible refine Kd.C_drewN ?_ _) | (with_reducible refine Kd.C_drew ?_))); (case side2 => exact (Kd.R_reads' HO_176001.out).2.1); (case side3 => repeat (first | exact (Kd.R_reads' HO_176002.out).2.2 | (with_reducible refine Kd.C_alloc ?_ _) | (with_reducible refine Kd.C_drewN ?_ _) | (with_reducible refine Kd.C_drew ?_))); (case side4 => exact (Kd.R_reads' HO_176002.out).2.1); rintro e w84 ⟨rfl, hb⟩; have n0_ := Aside0.mk (Kd.R_below (by (with_reducible repeat (first | apply Kd.R_alloc | apply Kd.R_drewN | apply Kd.R_drew)); exact HO_176001.out) hb); have n1_ := Aside0.mk (Kd.R_below (by (with_reducible repeat (first | apply Kd.R_alloc | apply Kd.R_drewN | apply Kd.R_drew)); exact HO_176002.out) hb); have n2_ := Aside0.mk (blk_below (g := gb169) (o := .cells #[.int .i64 x170000_3, .slice none 0 0, .slice none 0 0] 25 (0, 0)) (by (with_reducible repeat (first | refine blk_drewN ?_ _ | refine blk_drew ?_ | refine blk_alloc ?_ _)); exact BK169.out) hb); have n3_ := Aside0.mk (blk_below (g := gb175) (o := .cells #[.int .i64 x176000_3, .slice Ao82 x176001_2.length co82, .slice Ao83 x176002_2.length co83] 25 (0, 0)) (by (with_reducible repeat (first | refine blk_drewN ?_ _ | refine blk_drew ?_ | refine blk_alloc ?_ _)); exact BK175.out) hb); have n4_ := Aside0.mk (IsS66.below (by repeat (first | (with_reducible first | exact HI174.out | apply IsS66.alloc | apply IsS66.drewN | apply IsS66.drew | apply IsS66.set_0 | apply IsS66.set_1 | apply IsS66.set_2 | apply IsS66.set_3 | refine IsS66.far ?_ NB174_169.out _ | refine IsS66.far ?_ NB174_175.out _) | exact HI174.out)) hb); have n5_ := Aside0.mk (below_step (by repeat (first | (with_reducible first | exact HB.out | apply below_alloc | apply pw_below_drewN | apply below_drew1 | refine below_set ?_ (IsS66.ge HI174.out) | refine below_set ?_ GE169.out | refine below_set ?_ GE175.out) | exact HB.out)) hb); clear HO_176001; clear HO_176002; clear BK169; clear BK175; clear HI174; clear HB; have HO_176001 := n0_; have HO_176002 := n1_; have BK169 := n2_; have BK175 := n3_; have HI174 := n4_; have HB := n5_; clear n0_ n1_ n2_ n3_ n4_ n5_; (try clear hb); (try clear hb2); (try clear hk); (try clear hi); have hcz85_0 : w84.cell? ⟨gb175, 0, none⟩ = some (.int .i64 x176000_3) := (blk_cell BK175.out 0).trans rfl; have hcz85_1 : w84.cell? ⟨gb175, 1, none⟩ = some (.slice Ao82 x176001_2.length co82) := (blk_cell BK175.out 1).trans rfl; have hcz85_2 : w84.cell? ⟨gb175, 2, none⟩ = some (.slice Ao83 x176002_2.length co83) := (blk_cell BK175.out 2).trans rfl; have hfz85_0 := blk_frozen BK175.out 0; have hfz85_1 := blk_frozen BK175.out 1; have hfz85_2 := blk_frozen BK175.out 2; have hnb86 := NB169_174.out; have hnc86 := NB174_169.out; have hcz87_0 : w84.cell? ⟨gb169, 0, none⟩ = some (.int .i64 x170000_3) := (blk_cell BK169.out 0).trans rfl; have hcz87_1 : w84.cell? ⟨gb169, 1, none⟩ = some (.slice none 0 0) := (blk_cell BK169.out 1).trans rfl; have hcz87_2 : w84.cell? ⟨gb169, 2, none⟩ = some (.slice none 0 0) := (blk_cell BK169.out 2).trans rfl; have hfz87_0 := blk_frozen BK169.out 0; have hfz87_1 := blk_frozen BK169.out 1; have hfz87_2 := blk_frozen BK169.out 2))
                refine bodyPost_ret (results_ct rfl _ _ gb169 25 #[.int .i64 x176000_3, .slice Ao82 x176001_2.length co82, .slice Ao83 x176002_2.length co83] (0, 0) _ rfl (by (with_reducible repeat (first | refine blk_drewN ?_ _ | refine blk_drew ?_ | refine blk_alloc ?_ _)); refine blk_put (cs := #[.int .i64 x176000_3, .slice Ao82 x176001_2.length co82, .slice none 0 0]) ?_ 2 _ rfl; (with_reducible repeat (first | refine blk_drewN ?_ _ | refine blk_drew ?_ | refine blk_alloc ?_ _)); refine blk_put (cs := #[.int .i64 x176000_3, .slice none 0 0, .slice none 0 0]) ?_ 1 _ rfl; (with_reducible repeat (first | refine blk_drewN ?_ _ | refine blk_drew ?_ | refine blk_alloc ?_ _)); refine blk_put (cs := #[.int .i64 x170000_3, .slice none 0 0, .slice none 0 0]) ?_ 0 _ rfl; (with_reducible repeat (first | refine blk_drewN ?_ _ | refine blk_drew ?_ | refine blk_alloc ?_ _)); exact BK169.out) Try.underlying25 rfl (by kernel_rfl)) rfl ?_
                exact ⟨_, _, by first | rfl | (simp [errW_none, errW_some] <;> rfl) | (simp [*, errW_none, errW_some] <;> rfl), by (with_reducible repeat (first | apply Kd.R_alloc | apply Kd.R_drewN | apply Kd.R_drew)); exact Kd.R_mono (Kd.R_far (p := ⟨gb169, 2, none⟩) (Kd.R_far (p := ⟨gb169, 1, none⟩) (Kd.R_far (p := ⟨gb169, 0, none⟩) (Kd.R_types HO_176001.out BK169.out (by decide)) (fun _ hk => hk.2) (.int .i64 x176000_3)) (fun _ hk => hk.2) (.slice Ao82 x176001_2.length co82)) (fun _ hk => hk.2) (.slice Ao83 x176002_2.length co83)) (fun _ hk => trivial), by (with_reducible repeat (first | apply Kd.R_alloc | apply Kd.R_drewN | apply Kd.R_drew)); exact Kd.R_mono (Kd.R_far (p := ⟨gb169, 2, none⟩) (Kd.R_far (p := ⟨gb169, 1, none⟩) (Kd.R_far (p := ⟨gb169, 0, none⟩) (Kd.R_types HO_176002.out BK169.out (by decide)) (fun _ hk => hk.2) (.int .i64 x176000_3)) (fun _ hk => hk.2) (.slice Ao82 x176001_2.length co82)) (fun _ hk => hk.2) (.slice Ao83 x176002_2.length co83)) (fun _ hk => trivial), by repeat (first | (with_reducible first | exact HB.out | apply below_alloc | apply pw_below_drewN | apply below_drew1 | refine below_set ?_ (IsS66.ge HI174.out) | refine below_set ?_ GE169.out | refine below_set ?_ GE175.out) | exact HB.out)⟩
              · rw [if_neg c77] at H
                have c77b0 : (t226 == 0) = false := beq_eq_false_iff_ne.mpr c77
                have c77b1 : (t226 != 0) = true := bne_iff_ne.mpr c77
                simp only [Option.some.injEq, Prod.mk.injEq] at H
                obtain ⟨rfl, rfl, rfl, rfl⟩ := H
                go_wp2_with (first | ((with_reducible refine gate_callee (f := 23) rfl ?_); refine goesL_ (some 54) rfl rfl Try.func23 (by kernel_rfl) rfl #[.pointer (some ⟨g174, 0, none⟩)] rfl (by (try simp only [List.map_toArray, List.map_cons, List.map_nil]); first | done | rfl | (simp only [List.length_drop, List.length_take]; rfl)) ?_; (with_reducible refine (scan_Scan_End.calls g174 x175000_2 x175001_2 x175002_2 x175003_2 t221 t222 t223 t224 t225 w _ ?side1 ?side2 A74.out).mono ?_); (case side1 => repeat (first | (with_reducible first | exact HI174.out | apply IsS66.alloc | apply IsS66.drewN | apply IsS66.drew | apply IsS66.set_0 | apply IsS66.set_1 | apply IsS66.set_2 | apply IsS66.set_3 | refine IsS66.far ?_ NB174_169.out _ | refine IsS66.far ?_ NB174_175.out _) | exact HI174.out)); (case side2 => repeat (first | (with_reducible first | exact HB.out | apply below_alloc | apply pw_below_drewN | apply below_drew1 | refine below_set ?_ (IsS66.ge HI174.out) | refine below_set ?_ GE169.out | refine below_set ?_ GE175.out) | exact HB.out)); rintro e w88 ⟨rfl, hi, hb, hk⟩; refine ⟨_, rfl, ?_⟩; have n0_ := Aside0.mk (Kd.R_mono (Kd.R_keep (IsS66.apart (show IsS66 w _ g174 x175000_2 x175001_2 x175002_2 x175003_2 from by repeat (first | (with_reducible first | exact HI174.out | apply IsS66.alloc | apply IsS66.drewN | apply IsS66.drew | apply IsS66.set_0 | apply IsS66.set_1 | apply IsS66.set_2 | apply IsS66.set_3 | refine IsS66.far ?_ NB174_169.out _ | refine IsS66.far ?_ NB174_175.out _) | exact HI174.out)) (by (with_reducible repeat (first | apply Kd.R_alloc | apply Kd.R_drewN | apply Kd.R_drew)); exact HO_176001.out) (by decide)) hk (fun _ h => h.2)) (fun _ h => h.1)); have n1_ := Aside0.mk (Kd.R_mono (Kd.R_keep (IsS66.apart (show IsS66 w _ g174 x175000_2 x175001_2 x175002_2 x175003_2 from by repeat (first | (with_reducible first | exact HI174.out | apply IsS66.alloc | apply IsS66.drewN | apply IsS66.drew | apply IsS66.set_0 | apply IsS66.set_1 | apply IsS66.set_2 | apply IsS66.set_3 | refine IsS66.far ?_ NB174_169.out _ | refine IsS66.far ?_ NB174_175.out _) | exact HI174.out)) (by (with_reducible repeat (first | apply Kd.R_alloc | apply Kd.R_drewN | apply Kd.R_drew)); exact HO_176002.out) (by decide)) hk (fun _ h => h.2)) (fun _ h => h.1)); have n2_ := Aside0.mk (KeepBut.blk hk (g' := gb169) (o := .cells #[.int .i64 x170000_3, .slice none 0 0, .slice none 0 0] 25 (0, 0)) (by (with_reducible repeat (first | refine blk_drewN ?_ _ | refine blk_drew ?_ | refine blk_alloc ?_ _)); exact BK169.out) NB169_174.out (by simp)); have n3_ := Aside0.mk (KeepBut.blk hk (g' := gb175) (o := .cells #[.int .i64 x176000_3, u176001, u176002] 25 (0, 0)) (by (with_reducible repeat (first | refine blk_drewN ?_ _ | refine blk_drew ?_ | refine blk_alloc ?_ _)); exact BK175.out) NB175_174.out (by simp)); have n4_ := Aside0.mk (hb); have n5_ := Aside0.mk (hi); clear HO_176001; clear HO_176002; clear BK169; clear BK175; clear HB; clear HI174; have HO_176001 := n0_; have HO_176002 := n1_; have BK169 := n2_; have BK175 := n3_; have HB := n4_; have HI174 := n5_; clear n0_ n1_ n2_ n3_ n4_ n5_; (try clear hb); (try clear hb2); (try clear hk); (try clear hi); have hnb89 := NB175_169.out; have hnc89 := NB169_175.out; have hnb90 := NB175_174.out; have hnc90 := NB174_175.out; have hcz91_0 : w88.cell? ⟨gb175, 0, none⟩ = some (.int .i64 x176000_3) := (blk_cell BK175.out 0).trans rfl; have hcz91_1 : w88.cell? ⟨gb175, 1, none⟩ = some (u176001) := (blk_cell BK175.out 1).trans rfl; have hcz91_2 : w88.cell? ⟨gb175, 2, none⟩ = some (u176002) := (blk_cell BK175.out 2).trans rfl; have hfz91_0 := blk_frozen BK175.out 0; have hfz91_1 := blk_frozen BK175.out 1; have hfz91_2 := blk_frozen BK175.out 2; obtain ⟨Ao92, co92, eo92⟩ := Kd.R_slice HO_176001.out; subst eo92; obtain ⟨Ao93, co93, eo93⟩ := Kd.R_slice HO_176002.out; subst eo93) | (go_at_call 24; (with_reducible refine (chunk_Check.calls x176000_3 _ _ x176001_2 _ _ x176002_2 t226 _ ?side1 ?side2 ?side3 ?side4 A76.out).mono ?_); (case side1 => repeat (first | exact (Kd.R_reads' HO_176001.out).2.2 | (with_reducible refine Kd.C_alloc ?_ _) | (with_reducible refine Kd.C_drewN ?_ _) | (with_reducible refine Kd.C_drew ?_))); (case side2 => exact (Kd.R_reads' HO_176001.out).2.1); (case side3 => repeat (first | exact (Kd.R_reads' HO_176002.out).2.2 | (with_reducible refine Kd.C_alloc ?_ _) | (with_reducible refine Kd.C_drewN ?_ _) | (with_reducible refine Kd.C_drew ?_))); (case side4 => exact (Kd.R_reads' HO_176002.out).2.1); rintro e w94 ⟨rfl, hb⟩; have n0_ := Aside0.mk (Kd.R_below (by (with_reducible repeat (first | apply Kd.R_alloc | apply Kd.R_drewN | apply Kd.R_drew)); exact HO_176001.out) hb); have n1_ := Aside0.mk (Kd.R_below (by (with_reducible repeat (first | apply Kd.R_alloc | apply Kd.R_drewN | apply Kd.R_drew)); exact HO_176002.out) hb); have n2_ := Aside0.mk (blk_below (g := gb169) (o := .cells #[.int .i64 x170000_3, .slice none 0 0, .slice none 0 0] 25 (0, 0)) (by (with_reducible repeat (first | refine blk_drewN ?_ _ | refine blk_drew ?_ | refine blk_alloc ?_ _)); exact BK169.out) hb); have n3_ := Aside0.mk (blk_below (g := gb175) (o := .cells #[.int .i64 x176000_3, .slice Ao92 x176001_2.length co92, .slice Ao93 x176002_2.length co93] 25 (0, 0)) (by (with_reducible repeat (first | refine blk_drewN ?_ _ | refine blk_drew ?_ | refine blk_alloc ?_ _)); exact BK175.out) hb); have n4_ := Aside0.mk (IsS66.below (by repeat (first | (with_reducible first | exact HI174.out | apply IsS66.alloc | apply IsS66.drewN | apply IsS66.drew | apply IsS66.set_0 | apply IsS66.set_1 | apply IsS66.set_2 | apply IsS66.set_3 | refine IsS66.far ?_ NB174_169.out _ | refine IsS66.far ?_ NB174_175.out _) | exact HI174.out)) hb); have n5_ := Aside0.mk (below_step (by repeat (first | (with_reducible first | exact HB.out | apply below_alloc | apply pw_below_drewN | apply below_drew1 | refine below_set ?_ (IsS66.ge HI174.out) | refine below_set ?_ GE169.out | refine below_set ?_ GE175.out) | exact HB.out)) hb); clear HO_176001; clear HO_176002; clear BK169; clear BK175; clear HI174; clear HB; have HO_176001 := n0_; have HO_176002 := n1_; have BK169 := n2_; have BK175 := n3_; have HI174 := n4_; have HB := n5_; clear n0_ n1_ n2_ n3_ n4_ n5_; (try clear hb); (try clear hb2); (try clear hk); (try clear hi); have hnb95 := NB169_174.out; have hnc95 := NB174_169.out; have hcz96_0 : w94.cell? ⟨gb169, 0, none⟩ = some (.int .i64 x170000_3) := (blk_cell BK169.out 0).trans rfl; have hcz96_1 : w94.cell? ⟨gb169, 1, none⟩ = some (.slice none 0 0) := (blk_cell BK169.out 1).trans rfl; have hcz96_2 : w94.cell? ⟨gb169, 2, none⟩ = some (.slice none 0 0) := (blk_cell BK169.out 2).trans rfl; have hfz96_0 := blk_frozen BK169.out 0; have hfz96_1 := blk_frozen BK169.out 1; have hfz96_2 := blk_frozen BK169.out 2))
                refine bodyPost_ret (results_ct rfl _ _ gb169 25 #[.int .i64 0, .slice none 0 0, .slice none 0 0] (0, 0) _ rfl (by (with_reducible repeat (first | refine blk_drewN ?_ _ | refine blk_drew ?_ | refine blk_alloc ?_ _)); refine blk_put (cs := #[.int .i64 0, .slice none 0 0, .slice none 0 0]) ?_ 2 _ rfl; (with_reducible repeat (first | refine blk_drewN ?_ _ | refine blk_drew ?_ | refine blk_alloc ?_ _)); refine blk_put (cs := #[.int .i64 0, .slice none 0 0, .slice none 0 0]) ?_ 1 _ rfl; (with_reducible repeat (first | refine blk_drewN ?_ _ | refine blk_drew ?_ | refine blk_alloc ?_ _)); refine blk_put (cs := #[.int .i64 x170000_3, .slice none 0 0, .slice none 0 0]) ?_ 0 _ rfl; (with_reducible repeat (first | refine blk_drewN ?_ _ | refine blk_drew ?_ | refine blk_alloc ?_ _)); exact BK169.out) Try.underlying25 rfl (by kernel_rfl)) rfl ?_
                exact ⟨_, _, by first | rfl | (simp [errW_none, errW_some] <;> rfl) | (simp [*, errW_none, errW_some] <;> rfl), by first | exact Kd.R_nil _ _ _ _ _ | exact Kd.N_nil _ _ _ _ _ | exact Kd.V_nil _ _ _ _ _ | exact Kd.Q_nil _ _ _ _ _ | exact Kd.S_nil _ _ _ _ _, by first | exact Kd.R_nil _ _ _ _ _ | exact Kd.N_nil _ _ _ _ _ | exact Kd.V_nil _ _ _ _ _ | exact Kd.Q_nil _ _ _ _ _ | exact Kd.S_nil _ _ _ _ _, by repeat (first | (with_reducible first | exact HB.out | apply below_alloc | apply pw_below_drewN | apply below_drew1 | refine below_set ?_ (IsS66.ge HI174.out) | refine below_set ?_ GE169.out | refine below_set ?_ GE175.out) | exact HB.out)⟩
            · rw [if_neg c75] at H
              have c75b0 : (t221 == 0) = false := beq_eq_false_iff_ne.mpr c75
              have c75b1 : (t221 != 0) = true := bne_iff_ne.mpr c75
              simp only [Option.some.injEq, Prod.mk.injEq] at H
              obtain ⟨rfl, rfl, rfl, rfl⟩ := H
              go_wp2_with (first | ((with_reducible refine gate_callee (f := 23) rfl ?_); refine goesL_ (some 54) rfl rfl Try.func23 (by kernel_rfl) rfl #[.pointer (some ⟨g174, 0, none⟩)] rfl (by (try simp only [List.map_toArray, List.map_cons, List.map_nil]); first | done | rfl | (simp only [List.length_drop, List.length_take]; rfl)) ?_; (with_reducible refine (scan_Scan_End.calls g174 x175000_2 x175001_2 x175002_2 x175003_2 t221 t222 t223 t224 t225 w _ ?side1 ?side2 A74.out).mono ?_); (case side1 => repeat (first | (with_reducible first | exact HI174.out | apply IsS66.alloc | apply IsS66.drewN | apply IsS66.drew | apply IsS66.set_0 | apply IsS66.set_1 | apply IsS66.set_2 | apply IsS66.set_3 | refine IsS66.far ?_ NB174_169.out _ | refine IsS66.far ?_ NB174_175.out _) | exact HI174.out)); (case side2 => repeat (first | (with_reducible first | exact HB.out | apply below_alloc | apply pw_below_drewN | apply below_drew1 | refine below_set ?_ (IsS66.ge HI174.out) | refine below_set ?_ GE169.out | refine below_set ?_ GE175.out) | exact HB.out)); rintro e w97 ⟨rfl, hi, hb, hk⟩; refine ⟨_, rfl, ?_⟩; have n0_ := Aside0.mk (Kd.R_mono (Kd.R_keep (IsS66.apart (show IsS66 w _ g174 x175000_2 x175001_2 x175002_2 x175003_2 from by repeat (first | (with_reducible first | exact HI174.out | apply IsS66.alloc | apply IsS66.drewN | apply IsS66.drew | apply IsS66.set_0 | apply IsS66.set_1 | apply IsS66.set_2 | apply IsS66.set_3 | refine IsS66.far ?_ NB174_169.out _ | refine IsS66.far ?_ NB174_175.out _) | exact HI174.out)) (by (with_reducible repeat (first | apply Kd.R_alloc | apply Kd.R_drewN | apply Kd.R_drew)); exact HO_176001.out) (by decide)) hk (fun _ h => h.2)) (fun _ h => h.1)); have n1_ := Aside0.mk (Kd.R_mono (Kd.R_keep (IsS66.apart (show IsS66 w _ g174 x175000_2 x175001_2 x175002_2 x175003_2 from by repeat (first | (with_reducible first | exact HI174.out | apply IsS66.alloc | apply IsS66.drewN | apply IsS66.drew | apply IsS66.set_0 | apply IsS66.set_1 | apply IsS66.set_2 | apply IsS66.set_3 | refine IsS66.far ?_ NB174_169.out _ | refine IsS66.far ?_ NB174_175.out _) | exact HI174.out)) (by (with_reducible repeat (first | apply Kd.R_alloc | apply Kd.R_drewN | apply Kd.R_drew)); exact HO_176002.out) (by decide)) hk (fun _ h => h.2)) (fun _ h => h.1)); have n2_ := Aside0.mk (KeepBut.blk hk (g' := gb169) (o := .cells #[.int .i64 x170000_3, .slice none 0 0, .slice none 0 0] 25 (0, 0)) (by (with_reducible repeat (first | refine blk_drewN ?_ _ | refine blk_drew ?_ | refine blk_alloc ?_ _)); exact BK169.out) NB169_174.out (by simp)); have n3_ := Aside0.mk (KeepBut.blk hk (g' := gb175) (o := .cells #[.int .i64 x176000_3, u176001, u176002] 25 (0, 0)) (by (with_reducible repeat (first | refine blk_drewN ?_ _ | refine blk_drew ?_ | refine blk_alloc ?_ _)); exact BK175.out) NB175_174.out (by simp)); have n4_ := Aside0.mk (hb); have n5_ := Aside0.mk (hi); clear HO_176001; clear HO_176002; clear BK169; clear BK175; clear HB; clear HI174; have HO_176001 := n0_; have HO_176002 := n1_; have BK169 := n2_; have BK175 := n3_; have HB := n4_; have HI174 := n5_; clear n0_ n1_ n2_ n3_ n4_ n5_; (try clear hb); (try clear hb2); (try clear hk); (try clear hi); have hnb98 := NB169_175.out; have hnc98 := NB175_169.out; have hnb99 := NB169_174.out; have hnc99 := NB174_169.out; have hcz100_0 : w97.cell? ⟨gb169, 0, none⟩ = some (.int .i64 x170000_3) := (blk_cell BK169.out 0).trans rfl; have hcz100_1 : w97.cell? ⟨gb169, 1, none⟩ = some (.slice none 0 0) := (blk_cell BK169.out 1).trans rfl; have hcz100_2 : w97.cell? ⟨gb169, 2, none⟩ = some (.slice none 0 0) := (blk_cell BK169.out 2).trans rfl; have hfz100_0 := blk_frozen BK169.out 0; have hfz100_1 := blk_frozen BK169.out 1; have hfz100_2 := blk_frozen BK169.out 2))
              refine bodyPost_ret (results_ct rfl _ _ gb169 25 #[.int .i64 0, .slice none 0 0, .slice none 0 0] (0, 0) _ rfl (by (with_reducible repeat (first | refine blk_drewN ?_ _ | refine blk_drew ?_ | refine blk_alloc ?_ _)); refine blk_put (cs := #[.int .i64 0, .slice none 0 0, .slice none 0 0]) ?_ 2 _ rfl; (with_reducible repeat (first | refine blk_drewN ?_ _ | refine blk_drew ?_ | refine blk_alloc ?_ _)); refine blk_put (cs := #[.int .i64 0, .slice none 0 0, .slice none 0 0]) ?_ 1 _ rfl; (with_reducible repeat (first | refine blk_drewN ?_ _ | refine blk_drew ?_ | refine blk_alloc ?_ _)); refine blk_put (cs := #[.int .i64 x170000_3, .slice none 0 0, .slice none 0 0]) ?_ 0 _ rfl; (with_reducible repeat (first | refine blk_drewN ?_ _ | refine blk_drew ?_ | refine blk_alloc ?_ _)); exact BK169.out) Try.underlying25 rfl (by kernel_rfl)) rfl ?_
              exact ⟨_, _, by first | rfl | (simp [errW_none, errW_some] <;> rfl) | (simp [*, errW_none, errW_some] <;> rfl), by first | exact Kd.R_nil _ _ _ _ _ | exact Kd.N_nil _ _ _ _ _ | exact Kd.V_nil _ _ _ _ _ | exact Kd.Q_nil _ _ _ _ _ | exact Kd.S_nil _ _ _ _ _, by first | exact Kd.R_nil _ _ _ _ _ | exact Kd.N_nil _ _ _ _ _ | exact Kd.V_nil _ _ _ _ _ | exact Kd.Q_nil _ _ _ _ _ | exact Kd.S_nil _ _ _ _ _, by repeat (first | (with_reducible first | exact HB.out | apply below_alloc | apply pw_below_drewN | apply below_drew1 | refine below_set ?_ (IsS66.ge HI174.out) | refine below_set ?_ GE169.out | refine below_set ?_ GE175.out) | exact HB.out)⟩

-- this session's own plain form
def chunk_Take.fin (s : ByteArray) (lv : Int) (r : List S29 × List Int × Int × Int) : Int × List S29 × List Int × Int :=
  if M.xend s r.2.2.1 r.2.2.2 = 0 ∧ chunk_fits.wrong lv r.1 r.2.1 = 0 then (lv, r.1, r.2.1, 0) else (0, [], [], 3)
def chunk_fits.rest (s : ByteArray) (lv p er : Int) : List S29 × List Int × Int × Int := chunk_fits.read s lv (M.xnum s p er 8).1.toNat (M.xnum s p er 8).2.1 (M.xnum s p er 8).2.2
def chunk_Take.res (s : ByteArray) : Int × List S29 × List Int × Int :=
  if (M.xbyte s 0 0).1 = 76 then chunk_Take.fin s 0 (chunk_fits.rest s 0 (M.xbyte s 0 0).2.1 (M.xbyte s 0 0).2.2)
  else if (M.xbyte s 0 0).1 = 73 then (if (M.xnum s (M.xbyte s 0 0).2.1 (M.xbyte s 0 0).2.2 40).1 = 0 then (0, [], [], 3)
    else chunk_Take.fin s (M.xnum s (M.xbyte s 0 0).2.1 (M.xbyte s 0 0).2.2 40).1 (chunk_fits.rest s (M.xnum s (M.xbyte s 0 0).2.1 (M.xbyte s 0 0).2.2 40).1 (M.xnum s (M.xbyte s 0 0).2.1 (M.xbyte s 0 0).2.2 40).2.1 (M.xnum s (M.xbyte s 0 0).2.1 (M.xbyte s 0 0).2.2 40).2.2))
  else (0, [], [], 3)
def chunk_Take.f (a0 : ByteArray) : Option (Int × List S29 × List Int × Int) := if a0.size ≤ 9223372036854775806 then some (chunk_Take.res a0) else none
theorem chunk_Take.loop (s : ByteArray) (lv n : Int) (hn : n ≤ 8) (d : Nat) : ∀ (i : Nat) (p er : Int) (es : List S29) (cs : List Int), (i : Int) + d = n → M.sok s p → es.length ≤ 100 + i → cs.length ≤ 100 + i →
    chunk_Take_p.l0 (d + 1) n (i : Int) s p er true lv es cs = some (chunk_Take.fin s lv (es ++ (chunk_fits.read s lv d p er).1, cs ++ (chunk_fits.read s lv d p er).2.1, (chunk_fits.read s lv d p er).2.2.1, (chunk_fits.read s lv d p er).2.2.2)) := by
  induction d with
  | zero =>
    intro i p er es cs hi hs he hc
    rw [chunk_Take_p.l0, if_neg (by omega), scan_Scan_End.eq, Option.bind_some]
    simp only [chunk_fits.read, List.append_nil]
    unfold chunk_Take.fin chunk_Check.f
    by_cases h0 : M.xend s p er = 0
    · rw [if_pos h0, if_pos ⟨by omega, by omega⟩, Option.bind_some]
      by_cases h1 : chunk_fits.wrong lv es cs = 0
      · rw [if_pos h1, if_pos ⟨h0, h1⟩]
      · rw [if_neg h1, if_neg (fun z => h1 z.2)]
    · rw [if_neg h0, if_neg (fun z => h0 z.1)]
  | succ d ih =>
    intro i p er es cs hi hs he hc
    have hk := M.xtext_ok s er 64 hs
    have hi1 : wrap64 ((i : Int) + 1) = ((i + 1 : Nat) : Int) := by rw [M.wrap64_id (by omega) (by omega)]; omega
    rw [chunk_Take_p.l0, if_pos (by omega), hi1]
    unfold scan_Scan_Text.f
    rw [if_pos rfl, if_pos ⟨hs, by decide⟩, Option.bind_some]
    simp only
    by_cases hl : lv > 0
    · have hv := M.xfix_ok s (M.xtext s p er 64).2.2 32 hk
      have hm := M.xnum_ok s (M.xfix s (M.xtext s p er 64).2.1 (M.xtext s p er 64).2.2 32).2.2 2147483648 hv
      unfold scan_Scan_Fix.f scan_Scan_take.f
      rw [if_pos hl, if_pos rfl, if_pos ⟨hk, by decide, by decide⟩, Option.bind_some]
      simp only
      rw [scan_Scan_Num.eq _ _ _ _ hv (by decide), Option.bind_some]
      simp only
      rw [if_pos (by omega), if_pos (by omega), ih (i + 1) _ _ _ _ (by omega) hm (by simp; omega) (by simp; omega)]
      simp only [chunk_fits.read, if_pos hl, List.append_assoc, List.singleton_append]
    · have hv := M.xtext_ok s (M.xtext s p er 64).2.2 2048 hk
      rw [if_neg hl]
      rw [if_pos trivial, if_pos ⟨hk, by decide⟩, Option.bind_some]
      simp only
      rw [if_pos (by omega), ih (i + 1) _ _ _ _ (by omega) hv (by simp; omega) (by omega)]
      simp only [chunk_fits.read, if_neg hl, List.append_assoc, List.singleton_append]
theorem chunk_Take.ev (s : ByteArray) (r : Int × List S29 × List Int × Int) (h : chunk_Take.f s = some r) : ∃ k, chunk_Take_p.f k s = some r := by
  unfold chunk_Take.f at h
  split at h
  case isFalse => cases h
  case isTrue hz =>
    have h0 : M.sok s 0 := ⟨by decide, by omega, by omega⟩
    have hb := M.xbyte_ok s 0 h0
    have hl := M.xnum_ok s (M.xbyte s 0 0).2.2 40 hb
    have hj : ∀ (lv p er : Int), M.sok s p → ∃ k, chunk_Take_p.j0 k s p er true lv = some (chunk_Take.fin s lv (chunk_fits.rest s lv p er)) := by
      intro lv p er hs
      have hr := M.xnum_range s (er := er) hs (most := 8) (by decide) (by decide)
      refine ⟨(M.xnum s p er 8).1.toNat + 1 + 1, ?_⟩
      rw [chunk_Take_p.j0, scan_Scan_Num.eq _ _ _ _ hs (by decide), Option.bind_some]
      have := chunk_Take.loop s lv (M.xnum s p er 8).1 hr.2 (M.xnum s p er 8).1.toNat 0 (M.xnum s p er 8).2.1 (M.xnum s p er 8).2.2 [] [] (by omega) (M.xnum_ok s er 8 hs) (by simp) (by simp)
      simp only [List.nil_append] at this
      exact this
    rw [← h]
    unfold chunk_Take_p.f scan_New.f scan_Scan_Byte.f chunk_Take.res
    simp only [Option.bind_some]
    simp only [if_true, if_pos h0, Option.bind_some]
    by_cases c1 : (M.xbyte s 0 0).1 = 76
    · obtain ⟨k, hk⟩ := hj 0 _ (M.xbyte s 0 0).2.2 hb
      exact ⟨k, by rw [if_pos c1, if_pos c1]; exact hk⟩
    · by_cases c2 : (M.xbyte s 0 0).1 = 73
      · by_cases c3 : (M.xnum s (M.xbyte s 0 0).2.1 (M.xbyte s 0 0).2.2 40).1 = 0
        · refine ⟨0, ?_⟩
          rw [if_neg c1, if_pos c2, if_neg c1, if_pos c2, scan_Scan_Num.eq _ _ _ _ hb (by decide), Option.bind_some]
          simp only
          rw [if_pos c3, if_pos c3]
        · obtain ⟨k, hk⟩ := hj (M.xnum s (M.xbyte s 0 0).2.1 (M.xbyte s 0 0).2.2 40).1 _ (M.xnum s (M.xbyte s 0 0).2.1 (M.xbyte s 0 0).2.2 40).2.2 hl
          refine ⟨k, ?_⟩
          rw [if_neg c1, if_pos c2, if_neg c1, if_pos c2, scan_Scan_Num.eq _ _ _ _ hb (by decide), Option.bind_some]
          simp only
          rw [if_neg c3, if_neg c3]
          exact hk
      · exact ⟨0, by rw [if_neg c1, if_neg c2, if_neg c1, if_neg c2]⟩
theorem chunk_Take.calls (a0 : ByteArray) (r1 : Int) (r2 : List (S29)) (r3 : List Int) (r4 : Int) (w : World) (h : chunk_Take.f a0 = some (r1, r2, r3, r4)) :
    Calls Try.prog 15 #[.string a0] w fun e w' => ∃ v1_ v2_ : Value, e = .returned (.tuple #[.agg #[.int .i64 r1, v1_, v2_], .int .i64 r4]) ∧ Kd.R k29 29 w' w.heap.size (fun _ => True) v1_ r2 ∧ Kd.R (Kd.int .i64) 3 w' w.heap.size (fun _ => True) v2_ r3 ∧ Below w.heap.size w w' := by
  obtain ⟨k, hk⟩ := chunk_Take.ev _ _ h
  exact chunk_Take_p.calls (k := k) (w := w) (h := hk)

end Go.Proofs.Ytccppdpmfegndaa.EChunkBack
