-- Written by this session's own program (wip/tools/ext.py) for this claim; Lean checks it.
import Derived.Test.YtaooolfledfhoaaEVarintRowsx0
import Derived.Test.YtaooolfledfhoaaEVarintRowsx1
namespace Go.Proofs.Ytaooolfledfhoaa.EVarintRows
open Go.RowKit Go.Proofs.YtaooolfledfhoaaW.PrintWords Go.Proofs.YtaooolfledfhoaaW.PrintLast Go.Proofs.YtaooolfledfhoaaW.PrintMore
attribute [local go_sem] M.run_leq M.run_gtr M.run_geq max2_int min2_int max_two min_two max_three min_three max_four min_four   -- for this text's walks alone
set_option linter.unusedVariables false
set_option linter.unusedSimpArgs false

/-! ### varint_Rows: function 21 -/
def varint_Rows.go (s : ByteArray) (count : Int) : Nat → List Int → Int → List Int × Int × Bool
  | 0, _, _ => ([], 0, false)
  | f + 1, out, p => if (out.length : Int) < count then (if (M.vget (s.extract p.toNat s.size)).2.2 = true then varint_Rows.go s count f (out ++ [(M.vget (s.extract p.toNat s.size)).1]) (p + (M.vget (s.extract p.toNat s.size)).2.1) else ([], 0, false)) else (out, p, true)
def varint_Rows.f (s : ByteArray) (count : Int) : Option (List Int × Int × Bool) := if s.size ≤ 1000000 then some (varint_Rows.go s count (s.size + 1) [] 0) else none
theorem varint_Rows.vget_pos (s : ByteArray) (h : (M.vget s).2.2 = true) : 1 ≤ (M.vget s).2.1 := by
  rcases M.vgetL_cases (M.bs s) with ⟨n, r, hn, hr, eq⟩ | ⟨_, eq⟩
  · have e : M.vget s = ((n : Int), ((M.vb n).length : Int), true) := eq
    have := M.vb_pos n
    rw [e]; simp only; omega
  · have e : M.vget s = (0, 0, false) := eq
    rw [e] at h; cases h
theorem varint_Rows_1.wr {i : Int} (h0 : 0 ≤ i) (h1 : i ≤ 9223372036854775807) : IntKind.i64.wrap i = i := by
  simp [IntKind.wrap, IntKind.bits, IntKind.signed]; omega
set_option maxHeartbeats 8000000 in
set_option maxRecDepth 100000 in
theorem varint_Rows_1.bad (gs gz gl : Nat) (p : Nat) (s : ByteArray) (w : World) (hs : w.heap[gs]? = some (.cells #[.string s] 9 (0, 0))) (hz : w.heap[gz]? = some (.cells #[.int .i64 (p : Int)] 3 (0, 0)))
    (hp : p ≤ s.size) (hm : s.size ≤ 1000000) (hg : (M.vget (s.extract p s.size)).2.2 = false) :
    Calls Try.prog 24 #[.pointer (some ⟨gs, 0, none⟩), .pointer (some ⟨gz, 0, none⟩), .pointer (some ⟨gl, 0, none⟩)] w fun e w' => e = .returned (.bool false) ∧ Below w.heap.size w w' := by
  have cs := cell_of_one hs
  have cz := cell_of_one hz
  obtain ⟨n, k, b, hq⟩ : ∃ n k b, M.vget (s.extract p s.size) = (n, k, b) := ⟨_, _, _, rfl⟩
  rw [hq] at hg
  obtain rfl : b = false := hg
  have HG : Aside0 (varint_Get.f (s.extract p s.size) = some (n, k, false)) := ⟨by unfold varint_Get.f; rw [hq]⟩
  have hs1 : ∀ W : World, (Instr.slice 9 (.string s) (some (.int .i64 (p : Int))) none none).run Try.prog W = .ok (.string (s.extract p s.size)) W := by
    intro W
    have := run_slice_string_l (P := Try.prog) W 9 s Try.underlying9 .i64 (p : Int) (by omega) (by omega)
    rw [Int.toNat_natCast] at this
    exact this
  clear hq
  go_enter Try.func24, Try.ntmps24
  go_wp2_with (first | (go_at_call 9; refine (varint_Get.calls (s.extract p s.size) n k false _ HG.out).mono ?_; rintro e w1 ⟨rfl, hb1⟩; have HB1 := Aside0.mk hb1; clear hb1))
  go_ret
  exact ⟨rfl, HB1.out⟩
set_option maxHeartbeats 16000000 in
set_option maxRecDepth 100000 in
theorem varint_Rows_1.one (gs gz gl : Nat) (p : Nat) (s : ByteArray) (v : Value) (xs : List Int) (ok : Nat → Prop) (w0 w : World) (hB : Below w0.heap.size w0 w) (hs : w.heap[gs]? = some (.cells #[.string s] 9 (0, 0))) (hz : w.heap[gz]? = some (.cells #[.int .i64 (p : Int)] 3 (0, 0))) (hl : w.heap[gl]? = some (.cells #[v] 37 (0, 0)))
    (hR : Kd.R (Kd.int .u64) 22 w w0.heap.size ok v xs) (hp : p ≤ s.size) (hm : s.size ≤ 1000000) (n k : Int) (hq : M.vget (s.extract p s.size) = (n, k, true)) (hk0 : 0 ≤ k) (hk : (p : Int) + k ≤ s.size) (hlen : xs.length ≤ 1000000) (hfr : ∀ q, w.heap.size ≤ q → ok q) (hok : ∀ q, ok q → q ≠ gs ∧ q ≠ gz ∧ q ≠ gl) (hd1 : gz ≠ gl) (hd2 : gs ≠ gz) (hd3 : gs ≠ gl) (hgl : w0.heap.size ≤ gl) (hgz : w0.heap.size ≤ gz) :
    Calls Try.prog 24 #[.pointer (some ⟨gs, 0, none⟩), .pointer (some ⟨gz, 0, none⟩), .pointer (some ⟨gl, 0, none⟩)] w fun e w' => e = .returned (.bool true) ∧ ∃ v', w'.heap[gs]? = some (.cells #[.string s] 9 (0, 0)) ∧ w'.heap[gz]? = some (.cells #[.int .i64 ((p : Int) + k)] 3 (0, 0)) ∧ w'.heap[gl]? = some (.cells #[v'] 37 (0, 0)) ∧
      Kd.R (Kd.int .u64) 22 w' w0.heap.size ok v' (xs ++ [n]) ∧ Below w0.heap.size w0 w' := by
  have cs := cell_of_one hs
  have cz := cell_of_one hz
  have HG : Aside0 (varint_Get.f (s.extract p s.size) = some (n, k, true)) := ⟨by unfold varint_Get.f; rw [hq]⟩
  have hs1 : ∀ W : World, (Instr.slice 9 (.string s) (some (.int .i64 (p : Int))) none none).run Try.prog W = .ok (.string (s.extract p s.size)) W := by
    intro W
    have := run_slice_string_l (P := Try.prog) W 9 s Try.underlying9 .i64 (p : Int) (by omega) (by omega)
    rw [Int.toNat_natCast] at this
    exact this
  have lS := lt_of_block hs
  have lZ := lt_of_block hz
  have lL := lt_of_block hl
  clear hq
  go_enter Try.func24, Try.ntmps24
  go_wp2_with (first | (go_at_call 9; refine (varint_Get.calls (s.extract p s.size) n k true _ HG.out).mono ?_; rintro e w1 ⟨rfl, hb1⟩; have HB1 := Aside0.mk hb1; clear hb1))
  have hs' := (HB1.out.block gs lS).trans hs
  have hz' := (HB1.out.block gz lZ).trans hz
  have hl' := (HB1.out.block gl lL).trans hl
  have HRR := Aside0.mk (Kd.R_below hR HB1.out)
  have hsz := HB1.out.size
  have HB := Aside0.mk (below_step hB HB1.out)
  clear cs cz hs hz hl hR hB HB1 hs1
  have cz := cell_of_one hz'
  have cl := cell_of_one hl'
  have fl := free_of_one hl'
  have fz := free_of_one hz'
  have lS := lt_of_block hs'
  have lZ := lt_of_block hz'
  have lL := lt_of_block hl'
  have hwr : IntKind.i64.wrap ((p : Int) + k) = (p : Int) + k := varint_Rows_1.wr (by omega) (by omega)
  have nv : ∀ q, ¬ ok q → some q ≠ v.ownBlock := fun q hq e => hq (HRR.out.1 q e.symm)
  have ns : ¬ ok gs := fun h => (hok _ h).1 rfl
  have nz : ¬ ok gz := fun h => (hok _ h).2.1 rfl
  have nl : ¬ ok gl := fun h => (hok _ h).2.2 rfl
  go_region_law ((refine Kd.R_append_step (Kd.int .u64) (w0 := w0) (W := w1.drew) w0.heap.size (by rfl) _ _ 37 22 _ 8 (by rfl) Try.underlying37 info22 (by rfl) (by decide) (by decide) v xs n _ ok (fun _ => False) (by rfl) (by rfl) (by rfl) (fun _ h => h.elim) (fun q hq => hfr q (Nat.le_trans hsz hq)) (Kd.R_drew HRR.out) (below_drew1 HB.out) (below_size (below_drew1 HB.out)) (by omega) ?_; intro v1 w2 hR1 hB1 hg1 hat1; obtain ⟨A1, c1, e1⟩ := Kd.R_slice hR1; subst e1; have cl1 := (World.cell?_of_block (w := w1) (a := ⟨gl, 0, none⟩) (hg1.block gl lL (nv gl nl))).trans cl; have fl1 := (World.frozen?_of_block (w := w1) (a := ⟨gl, 0, none⟩) (hg1.block gl lL (nv gl nl))).trans fl; have cz1 := (World.cell?_of_block (w := w1) (a := ⟨gz, 0, none⟩) (hg1.block gz lZ (nv gz nz))).trans cz; have fz1 := (World.frozen?_of_block (w := w1) (a := ⟨gz, 0, none⟩) (hg1.block gz lZ (nv gz nz))).trans fz))
  all_goals
    (try go_wp2)
    go_ret
    refine ⟨rfl, .slice A1 (xs.length + 1) c1, ?_, ?_, ?_, ?_, ?_⟩
    · first | exact (Below.heap_setCell _ _ _ gs hd2).trans ((Below.heap_setCell _ _ _ gs hd3).trans ((hg1.block gs lS (nv gs ns)).trans hs')) | exact (Below.heap_setCell _ _ _ gs hd3).trans ((Below.heap_setCell _ _ _ gs hd2).trans ((hg1.block gs lS (nv gs ns)).trans hs'))
    · first | exact one_setCell ((Below.heap_setCell _ _ _ gz hd1).trans ((hg1.block gz lZ (nv gz nz)).trans hz')) | exact (Below.heap_setCell _ _ _ gz hd1).trans (one_setCell ((hg1.block gz lZ (nv gz nz)).trans hz'))
    · first | exact (Below.heap_setCell _ _ _ gl hd1.symm).trans (one_setCell ((hg1.block gl lL (nv gl nl)).trans hl')) | exact one_setCell ((Below.heap_setCell _ _ _ gl hd1.symm).trans ((hg1.block gl lL (nv gl nl)).trans hl'))
    · have q := hR1
      rw [show (xs ++ [n]).length = xs.length + 1 from by simp] at q
      first | exact Kd.R_far (p := ⟨gz, 0, none⟩) (Kd.R_far (p := ⟨gl, 0, none⟩) q (fun j hj => (hok j hj).2.2) _) (fun j hj => (hok j hj).2.1) _ | exact Kd.R_far (p := ⟨gl, 0, none⟩) (Kd.R_far (p := ⟨gz, 0, none⟩) q (fun j hj => (hok j hj).2.1) _) (fun j hj => (hok j hj).2.2) _
    · first | exact (hB1.setCell hgl _).setCell hgz _ | exact (hB1.setCell hgz _).setCell hgl _
set_option maxHeartbeats 16000000 in
set_option maxRecDepth 100000 in
theorem varint_Rows.calls (s : ByteArray) (count : Int) (r1 : List Int) (r2 : Int) (r3 : Bool) (w : World) (h : varint_Rows.f s count = some (r1, r2, r3)) :
    Calls Try.prog 21 #[.string s, .int .i64 count] w fun e w' => ∃ v0_ : Value, e = .returned (.tuple #[v0_, .int .i64 r2, .bool r3]) ∧ Kd.R (Kd.int .u64) 22 w' w.heap.size (fun _ => True) v0_ r1 ∧ Below w.heap.size w w' := by
  unfold varint_Rows.f at h
  split at h
  case isFalse => cases h
  case isTrue hm =>
  have HG := Aside0.mk (Option.some.inj h)
  clear h
  go_enter Try.func21, Try.ntmps21
  go_wp2
  go_loopg [6] (s.size + 1) (fun f v6 wr => ∃ (p : Nat) (v : Value) (out : List Int), v6 = .bool false ∧ p ≤ s.size ∧ out.length ≤ p ∧ s.size < f + p ∧ wr.heap[w.heap.size]? = some (.cells #[.string s] 9 (0, 0)) ∧ wr.heap[w.heap.size + 1]? = some (.cells #[v] 37 (0, 0)) ∧ wr.heap[w.heap.size + 1 + 1]? = some (.cells #[.int .i64 (p : Int)] 3 (0, 0)) ∧
      Aside0 (Kd.R (Kd.int .u64) 22 wr w.heap.size (fun q => q ≠ w.heap.size ∧ q ≠ w.heap.size + 1 ∧ q ≠ w.heap.size + 1 + 1) v out) ∧ Aside0 (Below w.heap.size w wr) ∧ Aside0 (varint_Rows.go s count f out (p : Int) = (r1, r2, r3)))
  case atStart =>
    refine ⟨0, .slice none 0 0, [], rfl, Nat.zero_le _, Nat.le_refl _, by omega, ?_, ?_, ?_, ⟨Kd.R_nil _ _ _ _ _⟩, ⟨?_⟩, HG⟩
    · rw [Below.heap_alloc _ _ _ (by first | (simp; done) | (simp; omega)), Below.heap_alloc _ _ _ (by first | (simp; done) | (simp; omega))]
      exact heap_alloc_new _ _
    · rw [Below.heap_alloc _ _ _ (by first | (simp; done) | (simp; omega))]
      simpa using heap_alloc_new (w.alloc (.cells #[.string s] 9)) (.cells #[.slice none 0 0] 37)
    · simpa using heap_alloc_new ((w.alloc (.cells #[.string s] 9)).alloc (.cells #[.slice none 0 0] 37)) (.cells #[.int .i64 0] 3)
    · exact (((Below.refl _ w).alloc (Nat.le_refl _) _).alloc (by first | (simp; done) | (simp; omega)) _).alloc (by first | (simp; done) | (simp; omega)) _
  case round =>
    obtain ⟨p, v, out, rfl, hp, hlen, hfu, hgs, hgl, hgz, HR, HB, HF⟩ := hrel
    obtain ⟨A0, c0, e0⟩ := Kd.R_slice HR.out
    subst e0
    have cS := cell_of_one hgs
    have cL := cell_of_one hgl
    have cZ := cell_of_one hgz
    have fL := free_of_one hgl
    have fZ := free_of_one hgz
    have lZ := lt_of_block hgz
    cases gk with
    | zero => omega
    | succ f =>
    by_cases hlt : (out.length : Int) < count
    · have hF := HF.out
      rw [varint_Rows.go, if_pos hlt, Int.toNat_natCast] at hF
      cases hb : (M.vget (s.extract p s.size)).2.2 with
      | false =>
        rw [hb, if_neg (by simp)] at hF
        simp only [Prod.mk.injEq] at hF
        obtain ⟨rfl, rfl, rfl⟩ := hF
        clear HF
        have HBD := Aside0.mk hb
        clear hb
        go_wp2_with (first | (go_at_call 24; refine (varint_Rows_1.bad w.heap.size (w.heap.size + 1 + 1) (w.heap.size + 1) p s _ hgs hgz hp hm HBD.out).mono ?_; rintro e w2 ⟨rfl, hb2⟩; have hl2 := (hb2.block _ (by omega)).trans hgl; have hz2 := (hb2.block _ (by omega)).trans hgz; have cL2 := cell_of_one hl2; have fL2 := free_of_one hl2; have cZ2 := cell_of_one hz2; have fZ2 := free_of_one hz2; have HB2 := Aside0.mk (below_step HB.out hb2); clear hb2 hl2 hz2))
        exact bodyPost_ret (v := .tuple #[.slice none 0 0, .int .i64 0, .bool false]) (by simp [results, Try.results21, go_sem, cL2, cZ2]) rfl ⟨_, rfl, Kd.R_nil _ _ _ _ _, (HB2.out.setCell (by show w.heap.size ≤ w.heap.size + 1; omega) _).setCell (by show w.heap.size ≤ w.heap.size + 1 + 1; omega) _⟩
      | true =>
        rw [hb, if_pos rfl] at hF
        have hpos := varint_Rows.vget_pos _ hb
        have hat := M.vget_at s (p := (p : Int)) ⟨by omega, by omega, by omega⟩
        rw [Int.toNat_natCast] at hat
        obtain ⟨n, k, b, hq⟩ : ∃ n k b, M.vget (s.extract p s.size) = (n, k, b) := ⟨_, _, _, rfl⟩
        rw [hq] at hF hb hpos hat
        obtain rfl : b = true := hb
        simp only at hF hpos hat
        obtain ⟨kn, rfl⟩ := Int.eq_ofNat_of_zero_le (show 0 ≤ k by omega)
        clear HF
        have HF := Aside0.mk hF
        have HQ := Aside0.mk hq
        clear hF hq
        go_wp2_with (first | (go_at_call 24; refine (varint_Rows_1.one w.heap.size (w.heap.size + 1 + 1) (w.heap.size + 1) p s _ out _ w _ HB.out hgs hgz hgl HR.out hp hm n (kn : Int) HQ.out (by omega) (by omega) (by omega) (fun q hq => ⟨by omega, by omega, by omega⟩) (fun q hq => ⟨hq.1, hq.2.2, hq.2.1⟩) (by omega) (by omega) (by omega) (by omega) (by omega)).mono ?_; rintro e w2 ⟨rfl, v2, hgs2, hgz2, hgl2, hR2, hB2⟩; have HR2 := Aside0.mk hR2; have HB2 := Aside0.mk hB2; have HS2 := Aside0.mk hgs2; have HZ2 := Aside0.mk hgz2; have HL2 := Aside0.mk hgl2; clear hR2 hB2 hgs2 hgz2 hgl2))
        go_roundg f
        case measure => omega
        case rel => exact ⟨p + kn, v2, out ++ [n], rfl, by omega, by rw [List.length_append, List.length_singleton]; omega, by omega, HS2.out, HL2.out, by rw [HZ2.out]; push_cast; rfl, HR2, HB2, ⟨by rw [← HF.out]; push_cast; rfl⟩⟩
    · have hF := HF.out
      rw [varint_Rows.go, if_neg hlt] at hF
      simp only [Prod.mk.injEq] at hF
      obtain ⟨rfl, rfl, rfl⟩ := hF
      clear HF
      go_wp2
      go_region
      all_goals
        (try go_wp2)
        exact bodyPost_ret (v := .tuple #[.slice A0 out.length c0, .int .i64 (p : Int), .bool true]) (by simp [results, Try.results21, go_sem, cL, cZ]) rfl ⟨_, rfl, Kd.R_mono (Kd.R_drew (Kd.R_far (p := ⟨w.heap.size + 1 + 1, 0, none⟩) (Kd.R_far (p := ⟨w.heap.size + 1, 0, none⟩) HR.out (fun q hq => hq.2.1) _) (fun q hq => hq.2.2) _)) (fun _ _ => trivial), below_drew1 ((HB.out.setCell (by show w.heap.size ≤ w.heap.size + 1; omega) _).setCell (by show w.heap.size ≤ w.heap.size + 1 + 1; omega) _)⟩

/-! ### pleachplain_Nums_p: function 22 -/
def pleachplain_Nums_p.l0 : Nat → List Int → List Int → Int → Int → Option (Bool)
  | 0, _, _, _, _ => none
  | k + 1, x0, x1, x12, x13 => if x13 < x12 then (if 0 ≤ x13 then (if x13 < (x0.length : Int) then (if x13 < (x1.length : Int) then (if (rd x0 x13) = (rd x1 x13) then (pleachplain_Nums_p.l0 k x0 x1 x12 (wrap64 (x13 + 1))) else (some false)) else (none)) else (none)) else (none)) else (some true)
def pleachplain_Nums_p.f (k : Nat) (l0 : List Int) (l1 : List Int) : Option (Bool) := if (l0.length : Int) = (l1.length : Int) then (pleachplain_Nums_p.l0 k l0 l1 (l0.length : Int) 0) else (some false)
theorem pleachplain_Nums_p.mono_l : ∀ k, (∀ y0 y1 y2 y3, LeO (pleachplain_Nums_p.l0 k y0 y1 y2 y3) (pleachplain_Nums_p.l0 (k + 1) y0 y1 y2 y3))
  | 0 => fun _ _ _ _ r h => by simp [pleachplain_Nums_p.l0] at h
  | k + 1 => by
    have ih0 := pleachplain_Nums_p.mono_l k
    · intro y0 y1 y2 y3
      unfold pleachplain_Nums_p.l0
      repeat' first
      | (with_reducible exact ih0 _ _ _ _)
      | (with_reducible exact LeO.refl _)
      | (with_reducible exact LeO.none _)
      | (with_reducible refine LeO.ite ?_ ?_)
      | (with_reducible refine LeO.bind ?_ (fun _ => ?_))
      | exact ih0 _ _ _ _
      | exact LeO.none _
      | refine LeO.ite ?_ ?_
      | refine LeO.bind ?_ (fun _ => ?_)
theorem pleachplain_Nums_p.mono : ∀ a0 a1 k, LeO (pleachplain_Nums_p.f k a0 a1) (pleachplain_Nums_p.f (k + 1) a0 a1) := by
  intro a0 a1 k
  have ih0 := pleachplain_Nums_p.mono_l k
  unfold pleachplain_Nums_p.f
  repeat' first
      | (with_reducible exact ih0 _ _ _ _)
      | (with_reducible exact LeO.refl _)
      | (with_reducible exact LeO.none _)
      | (with_reducible refine LeO.ite ?_ ?_)
      | (with_reducible refine LeO.bind ?_ (fun _ => ?_))
      | exact ih0 _ _ _ _
      | exact LeO.none _
      | refine LeO.ite ?_ ?_
      | refine LeO.bind ?_ (fun _ => ?_)
set_option maxHeartbeats 8000000 in
set_option maxRecDepth 100000 in
theorem pleachplain_Nums_p.calls (k : Nat) (A0 : Option Addr) (c0 : Nat) (l0 : List Int) (A1 : Option Addr) (c1 : Nat) (l1 : List Int) (r : Bool) (w : World) (hr0 : Kd.C (Kd.int .u64) w A0 l0.length l0) (hc0 : l0.length ≤ c0) (hr1 : Kd.C (Kd.int .u64) w A1 l1.length l1) (hc1 : l1.length ≤ c1) (h : pleachplain_Nums_p.f k l0 l1 = some r) :
    Calls Try.prog 22 #[.slice A0 l0.length c0, .slice A1 l1.length c1] w fun e w' => e = .returned (.bool r) ∧ Drawn0 w w' := by
  have HR0 := Aside0.mk hr0
  have HC0 := Aside0.mk hc0
  clear hr0 hc0
  have HR1 := Aside0.mk hr1
  have HC1 := Aside0.mk hc1
  clear hr1 hc1
  have H : (if (l0.length : Int) = (l1.length : Int) then (pleachplain_Nums_p.l0 k l0 l1 (l0.length : Int) 0) else (some false)) = some r := h
  clear h
  by_cases c3 : (l0.length : Int) = (l1.length : Int)
  · rw [if_pos c3] at H
    have c3b0 : ((l0.length : Int) == (l1.length : Int)) = true := beq_iff_eq.mpr c3
    have c3b1 : ((l0.length : Int) != (l1.length : Int)) = false := bne_eq_false_iff_eq.mpr c3
    have c3b2 : (l0.length == l1.length) = true := by first | simpa using c3 | (simp at c3 ⊢; omega)
    clear c3
    have H' := Aside0.mk H
    clear H
    go_enter Try.func22, Try.ntmps22
    go_wp2
    repeat (go_quiet (fail); try go_wp2)
    go_loopg [13] k (fun kq v13 w' => ∃ (x13_1 : Int), v13 = .int .i64 x13_1 ∧ Aside0 (pleachplain_Nums_p.l0 kq l0 l1 (l0.length : Int) x13_1 = some r) ∧ Aside0 (kq ≤ k) ∧ Drawn0 w w')
    case atStart => exact ⟨(0), (by first | rfl | (simp; done) | (simp [*]; done) | (simp [M.isEmpty_bne]; done)), H', ⟨Nat.le_refl _⟩, by repeat (first | exact Drawn0.refl _ | apply Drawn0.step)⟩
    case round =>
      clear H'
      try clear c1
      try clear c2
      try clear p2
      try clear c3
      try clear c3b0
      try clear c3b1
      try clear c3b2
      obtain ⟨x13_1, rfl, HA, HK1, ⟨m1, rfl⟩⟩ := hrel
      cases gk with
      | zero => exact absurd HA.out (by simp [pleachplain_Nums_p.l0])
      | succ k1 =>
        have H := HA.out
        clear HA
        simp only [pleachplain_Nums_p.l0] at H
        by_cases c4 : x13_1 < (l0.length : Int)
        · rw [if_pos c4] at H
          have c4b0 : decide (x13_1 < (l0.length : Int)) = true := decide_eq_true c4
          clear c4
          by_cases c5 : 0 ≤ x13_1
          · rw [if_pos c5] at H
            have c5b0 : decide (0 ≤ x13_1) = true := decide_eq_true c5
            clear c5
            by_cases c6 : x13_1 < (l0.length : Int)
            · rw [if_pos c6] at H
              have c6b0 : decide (x13_1 < (l0.length : Int)) = true := decide_eq_true c6
              clear c6
              by_cases c7 : x13_1 < (l1.length : Int)
              · rw [if_pos c7] at H
                have c7b0 : decide (x13_1 < (l1.length : Int)) = true := decide_eq_true c7
                clear c7
                by_cases c8 : (rd l0 x13_1) = (rd l1 x13_1)
                · rw [if_pos c8] at H
                  have c8b0 : ((rd l0 x13_1) == (rd l1 x13_1)) = true := beq_iff_eq.mpr c8
                  have c8b1 : ((rd l0 x13_1) != (rd l1 x13_1)) = false := bne_eq_false_iff_eq.mpr c8
                  clear c8
                  have H' := Aside0.mk H
                  clear H
                  have p117 : 0 ≤ (x13_1 : Int) := of_decide_eq_true (by first | (with_reducible assumption) | assumption)
                  have q117 : x13_1 < (l0.length : Int) := of_decide_eq_true (by first | (with_reducible assumption) | assumption)
                  obtain ⟨ad117, e117, hx117_0⟩ := Kd.at_int HR0.out x13_1 p117 q117
                  cases e117
                  replace p117 := eq_true p117
                  replace q117 := eq_true q117
                  have p118 : 0 ≤ (x13_1 : Int) := of_decide_eq_true (by first | (with_reducible assumption) | assumption)
                  have q118 : x13_1 < (l1.length : Int) := of_decide_eq_true (by first | (with_reducible assumption) | assumption)
                  obtain ⟨ad118, e118, hx118_0⟩ := Kd.at_int HR1.out x13_1 p118 q118
                  cases e118
                  replace p118 := eq_true p118
                  replace q118 := eq_true q118
                  go_wp2
                  repeat (go_quiet (fail); try go_wp2)
                  go_roundg k1
                  case measure => have := HK1.out; omega
                  case rel => exact ⟨(wrap64 (x13_1 + 1)), (by first | rfl | (simp; done) | (simp [*]; done) | (simp [M.isEmpty_bne]; done)), H', ⟨by have := HK1.out; omega⟩, by repeat (first | exact Drawn0.refl _ | apply Drawn0.step)⟩
                · rw [if_neg c8] at H
                  have c8b0 : ((rd l0 x13_1) == (rd l1 x13_1)) = false := beq_eq_false_iff_ne.mpr c8
                  have c8b1 : ((rd l0 x13_1) != (rd l1 x13_1)) = true := bne_iff_ne.mpr c8
                  obtain rfl := Option.some.inj H
                  have p117 : 0 ≤ (x13_1 : Int) := of_decide_eq_true (by first | (with_reducible assumption) | assumption)
                  have q117 : x13_1 < (l0.length : Int) := of_decide_eq_true (by first | (with_reducible assumption) | assumption)
                  obtain ⟨ad117, e117, hx117_0⟩ := Kd.at_int HR0.out x13_1 p117 q117
                  cases e117
                  replace p117 := eq_true p117
                  replace q117 := eq_true q117
                  have p118 : 0 ≤ (x13_1 : Int) := of_decide_eq_true (by first | (with_reducible assumption) | assumption)
                  have q118 : x13_1 < (l1.length : Int) := of_decide_eq_true (by first | (with_reducible assumption) | assumption)
                  obtain ⟨ad118, e118, hx118_0⟩ := Kd.at_int HR1.out x13_1 p118 q118
                  cases e118
                  replace p118 := eq_true p118
                  replace q118 := eq_true q118
                  go_wp2
                  repeat (go_quiet (fail); try go_wp2)
                  go_ret
                  exact ⟨by first | rfl | (simp; done) | (simp [*]; done), by repeat (first | exact Drawn0.refl _ | apply Drawn0.step)⟩
              · rw [if_neg c7] at H
                exact absurd H (by simp)
            · rw [if_neg c6] at H
              exact absurd H (by simp)
          · rw [if_neg c5] at H
            exact absurd H (by simp)
        · rw [if_neg c4] at H
          have c4b0 : decide (x13_1 < (l0.length : Int)) = false := decide_eq_false c4
          clear c4
          obtain rfl := Option.some.inj H
          go_wp2
          repeat (go_quiet (fail); try go_wp2)
          go_ret
          exact ⟨by first | rfl | (simp; done) | (simp [*]; done), by repeat (first | exact Drawn0.refl _ | apply Drawn0.step)⟩
  · rw [if_neg c3] at H
    have c3b0 : ((l0.length : Int) == (l1.length : Int)) = false := beq_eq_false_iff_ne.mpr c3
    have c3b1 : ((l0.length : Int) != (l1.length : Int)) = true := bne_iff_ne.mpr c3
    have c3b2 : (l0.length == l1.length) = false := by first | simpa using c3 | (simp at c3 ⊢; omega)
    obtain rfl := Option.some.inj H
    go_enter Try.func22, Try.ntmps22
    go_wp2
    repeat (go_quiet (fail); try go_wp2)
    go_ret
    exact ⟨by first | rfl | (simp; done) | (simp [*]; done), by repeat (first | exact Drawn0.refl _ | apply Drawn0.step)⟩

-- this session's own plain form
def pleachplain_Nums.f (l m : List Int) : Option Bool := if l.length ≤ 9223372036854775806 then some (decide (l = m)) else none
theorem pleachplain_Nums.loop (l m : List Int) (hl : l.length = m.length) (hc : l.length ≤ 9223372036854775806) (d : Nat) : ∀ i : Nat, i + d = l.length →
    pleachplain_Nums_p.l0 (d + 1) l m (l.length : Int) (i : Int) = some (decide (l.drop i = m.drop i)) := by
  induction d with
  | zero =>
    intro i hi
    rw [pleachplain_Nums_p.l0, if_neg (by omega), List.drop_of_length_le (by omega), List.drop_of_length_le (by omega)]
    simp
  | succ d ih =>
    intro i hi
    have hlt : i < l.length := by omega
    have hlt2 : i < m.length := by omega
    have hrd : rd l (i : Int) = l[i] := by simp [rd, List.getD, hlt]
    have hrd2 : rd m (i : Int) = m[i] := by simp [rd, List.getD, hlt2]
    rw [pleachplain_Nums_p.l0, if_pos (by omega), if_pos (by omega), if_pos (by omega), if_pos (by omega), hrd, hrd2, List.drop_eq_getElem_cons hlt, List.drop_eq_getElem_cons hlt2]
    by_cases he : l[i] = m[i]
    · rw [if_pos he, M.wrap64_id (i := (i : Int) + 1) (by omega) (by omega), show (i : Int) + 1 = ((i + 1 : Nat) : Int) from by omega, ih (i + 1) (by omega)]
      exact congrArg some (decide_eq_decide.2 ⟨fun z => by rw [he, z], fun z => (List.cons.inj z).2⟩)
    · rw [if_neg he]
      exact congrArg some (decide_eq_false (fun z => he (List.cons.inj z).1)).symm
theorem pleachplain_Nums.ev (l m : List Int) (r : Bool) (h : pleachplain_Nums.f l m = some r) : ∃ k, pleachplain_Nums_p.f k l m = some r := by
  unfold pleachplain_Nums.f at h
  split at h
  case isFalse => cases h
  case isTrue hh =>
    obtain rfl := Option.some.inj h
    refine ⟨l.length + 1, ?_⟩
    unfold pleachplain_Nums_p.f
    by_cases hl : l.length = m.length
    · rw [if_pos (by omega)]
      have := pleachplain_Nums.loop l m hl hh l.length 0 (by omega)
      simpa using this
    · rw [if_neg (by omega)]
      congr 1
      exact (decide_eq_false (fun z => hl (by rw [z]))).symm
theorem pleachplain_Nums.calls (A0 : Option Addr) (c0 : Nat) (l0 : List Int) (A1 : Option Addr) (c1 : Nat) (l1 : List Int) (r : Bool) (w : World) (hr0 : Kd.C (Kd.int .u64) w A0 l0.length l0) (hc0 : l0.length ≤ c0) (hr1 : Kd.C (Kd.int .u64) w A1 l1.length l1) (hc1 : l1.length ≤ c1) (h : pleachplain_Nums.f l0 l1 = some r) :
    Calls Try.prog 22 #[.slice A0 l0.length c0, .slice A1 l1.length c1] w fun e w' => e = .returned (.bool r) ∧ Drawn0 w w' := by
  obtain ⟨k, hk⟩ := pleachplain_Nums.ev _ _ _ h
  exact pleachplain_Nums_p.calls (k := k) (w := w) (h := hk) (hr0 := hr0) (hc0 := hc0) (hr1 := hr1) (hc1 := hc1)

/-! ### pleachref01_Digits_p: function 19 -/
def pleachref01_Digits_p.l0 : Nat → Int → List Int → Option (List Int)
  | 0, _, _ => none
  | k + 1, x0, x3 => if x0 > 0 then (if x3.length < 17592186044416 then (pleachref01_Digits_p.l0 k (IntKind.u64.wrap (Int.tdiv x0 128)) (x3 ++ [wrap64 (Int.tmod x0 128)])) else (none)) else (some x3)
def pleachref01_Digits_p.f (k : Nat) (a0 : Int) : Option (List Int) := pleachref01_Digits_p.l0 k (IntKind.u64.wrap (Int.tdiv a0 128)) (([wrap64 (Int.tmod a0 128)] : List Int))
theorem pleachref01_Digits_p.mono_l : ∀ k, (∀ y0 y1, LeO (pleachref01_Digits_p.l0 k y0 y1) (pleachref01_Digits_p.l0 (k + 1) y0 y1))
  | 0 => fun _ _ r h => by simp [pleachref01_Digits_p.l0] at h
  | k + 1 => by
    have ih0 := pleachref01_Digits_p.mono_l k
    · intro y0 y1
      unfold pleachref01_Digits_p.l0
      repeat' first
      | (with_reducible exact ih0 _ _)
      | (with_reducible exact LeO.refl _)
      | (with_reducible exact LeO.none _)
      | (with_reducible refine LeO.ite ?_ ?_)
      | (with_reducible refine LeO.bind ?_ (fun _ => ?_))
      | exact ih0 _ _
      | exact LeO.none _
      | refine LeO.ite ?_ ?_
      | refine LeO.bind ?_ (fun _ => ?_)
theorem pleachref01_Digits_p.mono : ∀ a0 k, LeO (pleachref01_Digits_p.f k a0) (pleachref01_Digits_p.f (k + 1) a0) := by
  intro a0 k
  have ih0 := pleachref01_Digits_p.mono_l k
  unfold pleachref01_Digits_p.f
  repeat' first
      | (with_reducible exact ih0 _ _)
      | (with_reducible exact LeO.refl _)
      | (with_reducible exact LeO.none _)
      | (with_reducible refine LeO.ite ?_ ?_)
      | (with_reducible refine LeO.bind ?_ (fun _ => ?_))
      | exact ih0 _ _
      | exact LeO.none _
      | refine LeO.ite ?_ ?_
      | refine LeO.bind ?_ (fun _ => ?_)
set_option maxHeartbeats 8000000 in
set_option maxRecDepth 100000 in
theorem pleachref01_Digits_p.calls (k : Nat) (a0 : Int) (r : List Int) (w : World) (h : pleachref01_Digits_p.f k a0 = some r) :
    Calls Try.prog 19 #[.int .u64 a0] w fun e w' => ∃ v0_ : Value, e = .returned (v0_) ∧ Kd.R (Kd.int .i64) 3 w' w.heap.size (fun _ => True) v0_ r ∧ Below w.heap.size w w' := by
  have HB := Aside0.mk (Below.refl w.heap.size w)
  have H : (pleachref01_Digits_p.l0 k (IntKind.u64.wrap (Int.tdiv a0 128)) (([wrap64 (Int.tmod a0 128)] : List Int))) = some r := h
  clear h
  obtain ⟨y119, hy119⟩ : ∃ y_ : List Int, y_ = (([wrap64 (Int.tmod a0 128)] : List Int)) := ⟨_, rfl⟩
  replace H : (pleachref01_Digits_p.l0 k (IntKind.u64.wrap (Int.tdiv a0 128)) y119) = some r := by first | (rw [hy119]; with_reducible exact H) | (have H2_ := (Option.bind_some _ _).symm.trans H; rw [hy119]; with_reducible exact H2_) | (have H2_ := (Option.bind_some _ _).symm.trans H; with_reducible exact H2_) | with_reducible exact H | (rw [hy119]; exact H) | exact H
  have Ny119 := Aside0.mk hy119
  clear hy119
  have H' := Aside0.mk H
  clear H
  go_enter Try.func19, Try.ntmps19
  go_wp2_with (first | ((with_reducible refine gate_dst (N := 7) rfl ?_); refine Kd.R_lit (Kd.int .i64) _ 3 ?hg (N := 7) ?hd (xs := ([wrap64 (Int.tmod a0 128)] : List Int)) (inner := [.int .i64 (wrap64 (Int.tmod a0 128))]) (ok := fun _ => True) (okp := fun _ => True) ?hr ?hp (fun _ hk => hk) trivial (Below.refl _ _) (Nat.le_refl _) (by simp) ?_; (case hd => rfl); (case hg => rfl); (case hr => first | (go_simp; done) | (go_simp; rfl)); (case hp => exact (Reps.one (show Kd.M (Kd.int .i64) _ _ _ (wrap64 (Int.tmod a0 128)) [.int .i64 (wrap64 (Int.tmod a0 128))] from rfl) (Reps.none _ _))); intro v120 w2 ho3 hb hg_ hnew_; clear hg_ hnew_; (first | rw [← Ny119.out] at ho3 | (simp only [Int.reduceToNat] at ho3; rw [← Ny119.out] at ho3)); have n0_ := Aside0.mk (Kd.R_lower ho3 (below_size (M.up HB))); have n1_ := M.upS HB hb; clear HB; have HO121 := n0_; have HB := n1_; clear n0_ n1_; clear hb ho3))
  go_loopg [0, 3] k (fun kq v0 v3 w' => ∃ (x0_1 : Int) (x3_1 : List Int), v0 = .int .u64 x0_1 ∧ Aside0 (pleachref01_Digits_p.l0 kq x0_1 x3_1 = some r) ∧ Aside0 (kq ≤ k) ∧ Aside0 (Kd.R (Kd.int .i64) 3 w' w.heap.size (fun _ => True) v3 x3_1) ∧ Aside0 (Below w.heap.size w w'))
  case atStart => exact ⟨(IntKind.u64.wrap (Int.tdiv a0 128)), (y119), (by first | rfl | (simp; done) | (simp [*]; done) | (simp [M.isEmpty_bne]; done)), H', ⟨Nat.le_refl _⟩, ⟨by (with_reducible repeat (first | apply Kd.R_alloc | apply Kd.R_drewN | apply Kd.R_drew)); exact HO121.out⟩, ⟨M.up HB⟩⟩
  case round =>
    clear H'
    try clear c1
    try clear p2
    obtain ⟨x0_1, x3_1, rfl, HA, HK1, zaa, HB⟩ := hrel
    cases gk with
    | zero => exact absurd HA.out (by simp [pleachref01_Digits_p.l0])
    | succ k1 =>
      have H := HA.out
      clear HA
      simp only [pleachref01_Digits_p.l0] at H
      by_cases c4 : x0_1 > 0
      · rw [if_pos c4] at H
        have c4b0 : decide (0 < x0_1) = true := decide_eq_true c4
        clear c4
        by_cases c5 : x3_1.length < 17592186044416
        · rw [if_pos c5] at H
          have LMc5 := Aside0.mk c5
          clear c5
          obtain ⟨y122, hy122⟩ : ∃ y_ : List Int, y_ = (x3_1 ++ [wrap64 (Int.tmod x0_1 128)]) := ⟨_, rfl⟩
          replace H : (pleachref01_Digits_p.l0 k1 (IntKind.u64.wrap (Int.tdiv x0_1 128)) y122) = some r := by first | (rw [hy122]; with_reducible exact H) | (have H2_ := (Option.bind_some _ _).symm.trans H; rw [hy122]; with_reducible exact H2_) | (have H2_ := (Option.bind_some _ _).symm.trans H; with_reducible exact H2_) | with_reducible exact H | (rw [hy122]; exact H) | exact H
          have Ny122 := Aside0.mk hy122
          clear hy122
          have H' := Aside0.mk H
          clear H
          go_wp2_with (first | ((with_reducible refine gate_builtin (b := .append) (xs := #[.tmp 12, .tmp 16]) rfl ?_); at_builtin; refine Kd.R_append (Kd.int .i64) (w0 := w) w.heap.size rfl (.tmp 12) (.tmp 16) 34 3 (.int .i64 0) 8 rfl Try.underlying34 info3 rfl (by decide) (by omega) u3 x3_1 (wrap64 (Int.tmod x0_1 128)) [.int .i64 (wrap64 (Int.tmod x0_1 128))] (fun _ => True) (fun _ => False) rfl rfl ?aP (fun _ hk => hk.elim) ?aF ?aO ?aB ?aS ?aL ?_; (case aP => exact rfl); (case aB => exact (M.up HB)); (case aF => exact (fun _ _ => trivial)); (case aO => exact (M.ro zaa)); (case aS => exact (below_size (M.up HB))); (case aL => have := LMc5.out; omega); intro v123 w6 ho hb hg hat; rw [← Ny122.out] at ho; have n0_ := Aside0.mk (hb); have n1_ := Aside0.mk (ho); clear HB zaa; have HB := n0_; have HO124 := n1_; clear n0_ n1_; clear ho hb hg hat))
          go_roundg k1
          case measure => have := HK1.out; omega
          case rel => exact ⟨(IntKind.u64.wrap (Int.tdiv x0_1 128)), (y122), (by first | rfl | (simp; done) | (simp [*]; done) | (simp [M.isEmpty_bne]; done)), H', ⟨by have := HK1.out; omega⟩, ⟨by (with_reducible repeat (first | apply Kd.R_alloc | apply Kd.R_drewN | apply Kd.R_drew)); exact HO124.out⟩, ⟨M.up HB⟩⟩
        · rw [if_neg c5] at H
          exact absurd H (by simp)
      · rw [if_neg c4] at H
        have c4b0 : decide (0 < x0_1) = false := decide_eq_false c4
        clear c4
        obtain rfl := Option.some.inj H
        go_wp2
        go_ret
        exact ⟨_, by first | rfl | (simp [errW_none, errW_some] <;> rfl) | (simp [*, errW_none, errW_some] <;> rfl), by (with_reducible repeat (first | apply Kd.R_alloc | apply Kd.R_drewN | apply Kd.R_drew)); exact zaa.out, M.up HB⟩

-- this session's own plain form
def pleachref01_Digits.f (a0 : Int) : Option (List Int) := if 0 ≤ a0 ∧ a0 < 18446744073709551616 then some (M.vdig a0.toNat) else none
theorem pleachref01_Digits.loop (d : Nat) : ∀ (m : Nat) (pre : List Int), m < 128 ^ d → m < 18446744073709551616 → pre.length + d ≤ 100 →
    ∃ k, pleachref01_Digits_p.l0 k (m : Int) pre = some (if m = 0 then pre else pre ++ M.vdig m) := by
  induction d with
  | zero => ?_
  | succ d ih => ?_
  all_goals
    intro m pre hm h64 hl
    by_cases h0 : m = 0
    case pos => exact ⟨1, by simp only [pleachref01_Digits_p.l0]; rw [if_neg (by omega), if_pos h0]⟩
    case neg =>
      first
      | (exfalso; simp at hm; omega)
      | (obtain ⟨k, hk⟩ := ih (m / 128) (pre ++ [((m % 128 : Nat) : Int)]) (by rw [Nat.pow_succ] at hm; omega) (by omega) (by simp; omega)
         refine ⟨k + 1, ?_⟩
         have e1 : IntKind.u64.wrap (Int.tdiv (m : Int) 128) = ((m / 128 : Nat) : Int) := by
           rw [Int.tdiv_eq_ediv_of_nonneg (by omega), M.u64_id (by omega) (by omega)]; omega
         have e2 : wrap64 (Int.tmod (m : Int) 128) = ((m % 128 : Nat) : Int) := by
           rw [Int.tmod_eq_emod_of_nonneg (by omega), M.wrap64_id (by omega) (by omega)]; omega
         simp only [pleachref01_Digits_p.l0]
         rw [if_pos (by omega), if_pos (by omega), e1, e2, hk, if_neg h0]
         by_cases h1 : m < 128
         · rw [if_pos (by omega), M.vdig_low h1, Nat.mod_eq_of_lt h1]
         · rw [if_neg (by omega), M.vdig_high h1]; simp)
theorem pleachref01_Digits.ev (a0 : Int) (r : List Int) (h : pleachref01_Digits.f a0 = some r) : ∃ k, pleachref01_Digits_p.f k a0 = some r := by
  unfold pleachref01_Digits.f at h
  split at h
  · rename_i hh
    obtain rfl := Option.some.inj h
    obtain ⟨m, rfl⟩ := Int.eq_ofNat_of_zero_le hh.1
    have e1 : IntKind.u64.wrap (Int.tdiv (m : Int) 128) = ((m / 128 : Nat) : Int) := by
      rw [Int.tdiv_eq_ediv_of_nonneg (by omega), M.u64_id (by omega) (by omega)]; omega
    have e2 : wrap64 (Int.tmod (m : Int) 128) = ((m % 128 : Nat) : Int) := by
      rw [Int.tmod_eq_emod_of_nonneg (by omega), M.wrap64_id (by omega) (by omega)]; omega
    obtain ⟨k, hk⟩ := pleachref01_Digits.loop 9 (m / 128) [((m % 128 : Nat) : Int)] (by omega) (by omega) (by simp)
    refine ⟨k, ?_⟩
    unfold pleachref01_Digits_p.f
    rw [e1, e2, hk, Int.toNat_natCast]
    by_cases h1 : m < 128
    · rw [if_pos (by omega), M.vdig_low h1, Nat.mod_eq_of_lt h1]
    · rw [if_neg (by omega), M.vdig_high h1]; simp
  · cases h
theorem pleachref01_Digits.calls (a0 : Int) (r : List Int) (w : World) (h : pleachref01_Digits.f a0 = some r) :
    Calls Try.prog 19 #[.int .u64 a0] w fun e w' => ∃ v0_ : Value, e = .returned (v0_) ∧ Kd.R (Kd.int .i64) 3 w' w.heap.size (fun _ => True) v0_ r ∧ Below w.heap.size w w' := by
  obtain ⟨k, hk⟩ := pleachref01_Digits.ev _ _ h
  exact pleachref01_Digits_p.calls (k := k) (w := w) (h := hk)

/-! ### pleachref01_Put_p: function 17 -/
def pleachref01_Put_p.l0 : Nat → List Int → ByteArray → Int → Option (ByteArray)
  | 0, _, _, _ => none
  | k + 1, x3, x4, x5 => if x5 < (x3.length : Int) then (if 0 ≤ x5 then (if (wrap64 (x5 + 1)) < (x3.length : Int) then ((some (([(wrap64 ((rd x3 x5) + 128)) % 256] : List Int) : List Int)).bind fun y129 => (if x4.size + (strOfNums y129).size ≤ 9223372036854775807 then (pleachref01_Put_p.l0 k x3 (x4 ++ (strOfNums y129)) (wrap64 (x5 + 1))) else (none))) else ((some (([(rd x3 x5) % 256] : List Int) : List Int)).bind fun y132 => (if x4.size + (strOfNums y132).size ≤ 9223372036854775807 then (pleachref01_Put_p.l0 k x3 (x4 ++ (strOfNums y132)) (wrap64 (x5 + 1))) else (none)))) else (none)) else (some x4)
def pleachref01_Put_p.f (k : Nat) (a0 : Int) : Option (ByteArray) := (pleachref01_Digits.f a0).bind fun t125 => (pleachref01_Put_p.l0 k t125 (⟨#[]⟩ : ByteArray) 0)
theorem pleachref01_Put_p.mono_l : ∀ k, (∀ y0 y1 y2, LeO (pleachref01_Put_p.l0 k y0 y1 y2) (pleachref01_Put_p.l0 (k + 1) y0 y1 y2))
  | 0 => fun _ _ _ r h => by simp [pleachref01_Put_p.l0] at h
  | k + 1 => by
    have ih0 := pleachref01_Put_p.mono_l k
    · intro y0 y1 y2
      unfold pleachref01_Put_p.l0
      repeat' first
      | (with_reducible exact ih0 _ _ _)
      | (with_reducible exact LeO.refl _)
      | (with_reducible exact LeO.none _)
      | (with_reducible refine LeO.ite ?_ ?_)
      | (with_reducible refine LeO.bind ?_ (fun _ => ?_))
      | exact ih0 _ _ _
      | exact LeO.none _
      | refine LeO.ite ?_ ?_
      | refine LeO.bind ?_ (fun _ => ?_)
theorem pleachref01_Put_p.mono : ∀ a0 k, LeO (pleachref01_Put_p.f k a0) (pleachref01_Put_p.f (k + 1) a0) := by
  intro a0 k
  have ih0 := pleachref01_Put_p.mono_l k
  unfold pleachref01_Put_p.f
  repeat' first
      | (with_reducible exact ih0 _ _ _)
      | (with_reducible exact LeO.refl _)
      | (with_reducible exact LeO.none _)
      | (with_reducible refine LeO.ite ?_ ?_)
      | (with_reducible refine LeO.bind ?_ (fun _ => ?_))
      | exact ih0 _ _ _
      | exact LeO.none _
      | refine LeO.ite ?_ ?_
      | refine LeO.bind ?_ (fun _ => ?_)
set_option maxHeartbeats 8000000 in
set_option maxRecDepth 100000 in
theorem pleachref01_Put_p.calls (k : Nat) (a0 : Int) (r : ByteArray) (w : World) (h : pleachref01_Put_p.f k a0 = some r) :
    Calls Try.prog 17 #[.int .u64 a0] w fun e w' => e = .returned (.string r) ∧ Below w.heap.size w w' := by
  have HB := Aside0.mk (Below.refl w.heap.size w)
  have H : ((pleachref01_Digits.f a0).bind fun t125 => (pleachref01_Put_p.l0 k t125 (⟨#[]⟩ : ByteArray) 0)) = some r := h
  clear h
  replace H := Option.bind_eq_some_iff.mp H
  obtain ⟨t125, A20, H⟩ := H
  replace H : (pleachref01_Put_p.l0 k t125 (⟨#[]⟩ : ByteArray) 0) = some r := H
  have A2 := Aside0.mk A20
  clear A20
  have H' := Aside0.mk H
  clear H
  go_enter Try.func17, Try.ntmps17
  go_wp2_with (first | ((with_reducible refine gate_callee (f := 19) rfl ?_); refine M.goes (some 8) Try.func19 #[.int .u64 a0] rfl ?_; (with_reducible refine (pleachref01_Digits.calls a0 t125 _ A2.out).mono ?_); rintro e w3 ⟨v126, rfl, ho0, hb⟩; refine ⟨_, rfl, ?_⟩; have n0_ := Aside0.mk (Kd.R_lower ho0 (below_size (M.up HB))); have n1_ := M.upS HB hb; clear HB; have HO127 := n0_; have HB := n1_; clear n0_ n1_; (try clear hb); (try clear ho0)))
  go_loopg [4, 5] k (fun kq v4 v5 w' => ∃ (x4_1 : ByteArray) (x5_1 : Int), v4 = .string x4_1 ∧ v5 = .int .i64 x5_1 ∧ Aside0 (pleachref01_Put_p.l0 kq t125 x4_1 x5_1 = some r) ∧ Aside0 (kq ≤ k) ∧ Aside0 (Kd.R (Kd.int .i64) 3 w' w.heap.size (fun _ => True) v126 t125) ∧ Aside0 (Below w.heap.size w w'))
  case atStart => exact ⟨((⟨#[]⟩ : ByteArray)), (0), (by first | rfl | (simp; done) | (simp [*]; done) | (simp [M.isEmpty_bne]; done)), (by first | rfl | (simp; done) | (simp [*]; done) | (simp [M.isEmpty_bne]; done)), H', ⟨Nat.le_refl _⟩, ⟨by (with_reducible repeat (first | apply Kd.R_alloc | apply Kd.R_drewN | apply Kd.R_drew)); exact HO127.out⟩, ⟨M.up HB⟩⟩
  case round =>
    clear H'
    try clear c1
    try clear p2
    obtain ⟨x4_1, x5_1, rfl, rfl, HA, HK1, zaa, HB⟩ := hrel
    cases gk with
    | zero => exact absurd HA.out (by simp [pleachref01_Put_p.l0])
    | succ k1 =>
      have H := HA.out
      clear HA
      simp only [pleachref01_Put_p.l0] at H
      by_cases c4 : x5_1 < (t125.length : Int)
      · rw [if_pos c4] at H
        have c4b0 : decide (x5_1 < (t125.length : Int)) = true := decide_eq_true c4
        clear c4
        by_cases c5 : 0 ≤ x5_1
        · rw [if_pos c5] at H
          have c5b0 : decide (0 ≤ x5_1) = true := decide_eq_true c5
          clear c5
          by_cases c6 : (wrap64 (x5_1 + 1)) < (t125.length : Int)
          · rw [if_pos c6] at H
            have c6b0 : decide ((wrap64 (x5_1 + 1)) < (t125.length : Int)) = true := decide_eq_true c6
            clear c6
            obtain ⟨y129, hy129⟩ : ∃ y_ : List Int, y_ = (([(wrap64 ((rd t125 x5_1) + 128)) % 256] : List Int)) := ⟨_, rfl⟩
            replace H : (if x4_1.size + (strOfNums y129).size ≤ 9223372036854775807 then (pleachref01_Put_p.l0 k1 t125 (x4_1 ++ (strOfNums y129)) (wrap64 (x5_1 + 1))) else (none)) = some r := by first | (rw [hy129]; with_reducible exact H) | (have H2_ := (Option.bind_some _ _).symm.trans H; rw [hy129]; with_reducible exact H2_) | (have H2_ := (Option.bind_some _ _).symm.trans H; with_reducible exact H2_) | with_reducible exact H | (rw [hy129]; exact H) | exact H
            have Ny129 := Aside0.mk hy129
            clear hy129
            by_cases c7 : x4_1.size + (strOfNums y129).size ≤ 9223372036854775807
            · rw [if_pos c7] at H
              have c7b0 := eq_true c7
              have c7b1 : decide (x4_1.size + (strOfNums y129).size ≤ 9223372036854775807) = true := decide_eq_true c7
              try have c7b2 : (9223372036854775807 < x4_1.size + (strOfNums y129).size) = False := eq_false (Nat.not_lt.2 c7)
              have H' := Aside0.mk H
              clear H
              obtain ⟨Ao8, co8, eo8⟩ := Kd.R_slice zaa.out
              subst eo8
              have p128 : 0 ≤ (x5_1 : Int) := of_decide_eq_true (by first | (with_reducible assumption) | assumption)
              have q128 : x5_1 < (t125.length : Int) := of_decide_eq_true (by first | (with_reducible assumption) | assumption)
              obtain ⟨ad128, e128, hx128_0⟩ := Kd.at_int (Kd.R_reads' zaa.out).2.2 x5_1 p128 q128
              cases e128
              replace p128 := eq_true p128
              replace q128 := eq_true q128
              go_wp2_with (first | ((with_reducible refine gate_dst (N := 29) rfl ?_); refine Kd.R_lit (Kd.int .u8) _ 5 ?hg (N := 29) ?hd (xs := ([(wrap64 ((rd t125 x5_1) + 128)) % 256] : List Int)) (inner := [.int .u8 ((wrap64 ((rd t125 x5_1) + 128)) % 256)]) (ok := fun _ => True) (okp := fun _ => True) ?hr ?hp (fun _ hk => hk) trivial (Below.refl _ _) (Nat.le_refl _) (by simp) ?_; (case hd => rfl); (case hg => rfl); (case hr => first | (go_simp; done) | (go_simp; rfl)); (case hp => exact (Reps.one (show Kd.M (Kd.int .u8) _ _ _ ((wrap64 ((rd t125 x5_1) + 128)) % 256) [.int .u8 ((wrap64 ((rd t125 x5_1) + 128)) % 256)] from rfl) (Reps.none _ _))); intro v130 w9 ho10 hb hg_ hnew_; clear hg_ hnew_; (first | rw [← Ny129.out] at ho10 | (simp only [Int.reduceToNat] at ho10; rw [← Ny129.out] at ho10)); have n0_ := M.roB zaa hb; have n1_ := Aside0.mk (Kd.R_lower ho10 (below_size (M.up HB))); have n2_ := M.upS HB hb; clear zaa HB; have zaa := n0_; have HO131 := n1_; have HB := n2_; clear n0_ n1_ n2_; clear hb ho10; have hcv11 := own_string (P := Try.prog) Try.underlying45 Try.underlying5 Try.underlying9 (Kd.own_of_R HO131.out)))
              go_roundg k1
              case measure => have := HK1.out; omega
              case rel => exact ⟨(x4_1 ++ (strOfNums y129)), (wrap64 (x5_1 + 1)), (by first | rfl | (simp; done) | (simp [*]; done) | (simp [M.isEmpty_bne]; done)), (by first | rfl | (simp; done) | (simp [*]; done) | (simp [M.isEmpty_bne]; done)), H', ⟨by have := HK1.out; omega⟩, ⟨by (with_reducible repeat (first | apply Kd.R_alloc | apply Kd.R_drewN | apply Kd.R_drew)); exact zaa.out⟩, ⟨M.up HB⟩⟩
            · rw [if_neg c7] at H
              exact absurd H (by simp)
          · rw [if_neg c6] at H
            have c6b0 : decide ((wrap64 (x5_1 + 1)) < (t125.length : Int)) = false := decide_eq_false c6
            clear c6
            obtain ⟨y132, hy132⟩ : ∃ y_ : List Int, y_ = (([(rd t125 x5_1) % 256] : List Int)) := ⟨_, rfl⟩
            replace H : (if x4_1.size + (strOfNums y132).size ≤ 9223372036854775807 then (pleachref01_Put_p.l0 k1 t125 (x4_1 ++ (strOfNums y132)) (wrap64 (x5_1 + 1))) else (none)) = some r := by first | (rw [hy132]; with_reducible exact H) | (have H2_ := (Option.bind_some _ _).symm.trans H; rw [hy132]; with_reducible exact H2_) | (have H2_ := (Option.bind_some _ _).symm.trans H; with_reducible exact H2_) | with_reducible exact H | (rw [hy132]; exact H) | exact H
            have Ny132 := Aside0.mk hy132
            clear hy132
            by_cases c12 : x4_1.size + (strOfNums y132).size ≤ 9223372036854775807
            · rw [if_pos c12] at H
              have c12b0 := eq_true c12
              have c12b1 : decide (x4_1.size + (strOfNums y132).size ≤ 9223372036854775807) = true := decide_eq_true c12
              try have c12b2 : (9223372036854775807 < x4_1.size + (strOfNums y132).size) = False := eq_false (Nat.not_lt.2 c12)
              have H' := Aside0.mk H
              clear H
              obtain ⟨Ao13, co13, eo13⟩ := Kd.R_slice zaa.out
              subst eo13
              have p128 : 0 ≤ (x5_1 : Int) := of_decide_eq_true (by first | (with_reducible assumption) | assumption)
              have q128 : x5_1 < (t125.length : Int) := of_decide_eq_true (by first | (with_reducible assumption) | assumption)
              obtain ⟨ad128, e128, hx128_0⟩ := Kd.at_int (Kd.R_reads' zaa.out).2.2 x5_1 p128 q128
              cases e128
              replace p128 := eq_true p128
              replace q128 := eq_true q128
              go_wp2_with (first | ((with_reducible refine gate_dst (N := 29) rfl ?_); refine Kd.R_lit (Kd.int .u8) _ 5 ?hg (N := 29) ?hd (xs := ([(rd t125 x5_1) % 256] : List Int)) (inner := [.int .u8 ((rd t125 x5_1) % 256)]) (ok := fun _ => True) (okp := fun _ => True) ?hr ?hp (fun _ hk => hk) trivial (Below.refl _ _) (Nat.le_refl _) (by simp) ?_; (case hd => rfl); (case hg => rfl); (case hr => first | (go_simp; done) | (go_simp; rfl)); (case hp => exact (Reps.one (show Kd.M (Kd.int .u8) _ _ _ ((rd t125 x5_1) % 256) [.int .u8 ((rd t125 x5_1) % 256)] from rfl) (Reps.none _ _))); intro v133 w14 ho15 hb hg_ hnew_; clear hg_ hnew_; (first | rw [← Ny132.out] at ho15 | (simp only [Int.reduceToNat] at ho15; rw [← Ny132.out] at ho15)); have n0_ := M.roB zaa hb; have n1_ := Aside0.mk (Kd.R_lower ho15 (below_size (M.up HB))); have n2_ := M.upS HB hb; clear zaa HB; have zaa := n0_; have HO134 := n1_; have HB := n2_; clear n0_ n1_ n2_; clear hb ho15; have hcv16 := own_string (P := Try.prog) Try.underlying45 Try.underlying5 Try.underlying9 (Kd.own_of_R HO134.out)))
              go_roundg k1
              case measure => have := HK1.out; omega
              case rel => exact ⟨(x4_1 ++ (strOfNums y132)), (wrap64 (x5_1 + 1)), (by first | rfl | (simp; done) | (simp [*]; done) | (simp [M.isEmpty_bne]; done)), (by first | rfl | (simp; done) | (simp [*]; done) | (simp [M.isEmpty_bne]; done)), H', ⟨by have := HK1.out; omega⟩, ⟨by (with_reducible repeat (first | apply Kd.R_alloc | apply Kd.R_drewN | apply Kd.R_drew)); exact zaa.out⟩, ⟨M.up HB⟩⟩
            · rw [if_neg c12] at H
              exact absurd H (by simp)
        · rw [if_neg c5] at H
          exact absurd H (by simp)
      · rw [if_neg c4] at H
        have c4b0 : decide (x5_1 < (t125.length : Int)) = false := decide_eq_false c4
        clear c4
        obtain rfl := Option.some.inj H
        obtain ⟨Ao17, co17, eo17⟩ := Kd.R_slice zaa.out
        subst eo17
        go_wp2
        go_ret
        exact M.fin (M.up HB)

-- this session's own plain form
def pleachref01_Put.f (a0 : Int) : Option ByteArray := if 0 ≤ a0 ∧ a0 < 18446744073709551616 then some (M.sb (M.vb a0.toNat)) else none
theorem pleachref01_Put.one (d : Int) : strOfNums [d] = M.sb [UInt8.ofNat d.toNat] := rfl
theorem pleachref01_Put.loop (l : List Int) (hl : l.length ≤ 10) (hr : ∀ d ∈ l, 0 ≤ d ∧ d < 128) : ∀ (rest pre : List Int) (out : ByteArray), l = pre ++ rest → out.size = pre.length →
    ∃ k, pleachref01_Put_p.l0 k l out (pre.length : Int) = some (out ++ M.sb (M.venc rest)) := by
  intro rest
  induction rest with
  | nil =>
    intro pre out he ho
    refine ⟨1, ?_⟩
    simp only [pleachref01_Put_p.l0]
    rw [if_neg (by rw [he]; simp)]
    congr 1
    exact M.bs_inj (by rw [M.bs_append]; simp [M.venc, M.bs_sb])
  | cons d rest ih =>
    intro pre out he ho
    have hlen : l.length = pre.length + rest.length + 1 := by rw [he]; simp; omega
    have hd := hr d (by rw [he]; simp)
    have hrd : rd l (pre.length : Int) = d := by rw [rd, he]; simp
    have hw : wrap64 ((pre.length : Int) + 1) = ((pre.length + 1 : Nat) : Int) := by rw [M.wrap64_id (by omega) (by omega)]; omega
    have hsz : ∀ x, (strOfNums [x]).size = 1 := fun x => by rw [strOfNums_size]; rfl
    have hp : pre.length + 1 = (pre ++ [d]).length := by simp
    cases rest with
    | nil =>
      obtain ⟨k, hk⟩ := ih (pre ++ [d]) (out ++ M.sb [UInt8.ofNat d.toNat]) (by rw [he]; simp) (by rw [M.size_append, M.size_sb, ho]; simp)
      refine ⟨k + 1, ?_⟩
      have e : (rd l (pre.length : Int)) % 256 = d := by rw [hrd]; omega
      simp only [List.length_nil] at hlen
      simp only [pleachref01_Put_p.l0, Option.bind_some]
      rw [if_pos (by omega), if_pos (by omega), hw, if_neg (by omega), e, hsz, if_pos (by omega), pleachref01_Put.one, hp, hk]
      congr 1
      exact M.bs_inj (by simp [M.bs_append, M.bs_sb, M.venc])
    | cons e rest =>
      obtain ⟨k, hk⟩ := ih (pre ++ [d]) (out ++ M.sb [UInt8.ofNat (d.toNat + 128)]) (by rw [he]; simp) (by rw [M.size_append, M.size_sb, ho]; simp)
      refine ⟨k + 1, ?_⟩
      have e2 : (wrap64 ((rd l (pre.length : Int)) + 128)) % 256 = d + 128 := by rw [hrd, M.wrap64_id (by omega) (by omega)]; omega
      have e3 : (d + 128).toNat = d.toNat + 128 := by omega
      simp only [pleachref01_Put_p.l0, Option.bind_some]
      simp only [List.length_cons] at hlen
      rw [if_pos (by omega), if_pos (by omega), hw, if_pos (by omega), e2, hsz, if_pos (by omega), pleachref01_Put.one, e3, hp, hk]
      congr 1
      exact M.bs_inj (by simp [M.bs_append, M.bs_sb, M.venc_cons])
theorem pleachref01_Put.ev (a0 : Int) (r : ByteArray) (h : pleachref01_Put.f a0 = some r) : ∃ k, pleachref01_Put_p.f k a0 = some r := by
  unfold pleachref01_Put.f at h
  split at h
  · rename_i hh
    obtain rfl := Option.some.inj h
    obtain ⟨m, rfl⟩ := Int.eq_ofNat_of_zero_le hh.1
    obtain ⟨k, hk⟩ := pleachref01_Put.loop (M.vdig m) (by rw [M.vdig_length]; exact M.vb_le m (by omega)) (M.vdig_range m) (M.vdig m) [] (⟨#[]⟩ : ByteArray) rfl rfl
    refine ⟨k, ?_⟩
    unfold pleachref01_Put_p.f pleachref01_Digits.f
    rw [if_pos hh]
    simp only [Option.bind_some, Int.toNat_natCast]
    refine Eq.trans hk ?_
    congr 1
    exact M.bs_inj (by rw [M.bs_append, M.bs_nil, List.nil_append, M.bs_sb, M.bs_sb, M.venc_vdig])
  · cases h
theorem pleachref01_Put.calls (a0 : Int) (r : ByteArray) (w : World) (h : pleachref01_Put.f a0 = some r) :
    Calls Try.prog 17 #[.int .u64 a0] w fun e w' => e = .returned (.string r) ∧ Below w.heap.size w w' := by
  obtain ⟨k, hk⟩ := pleachref01_Put.ev _ _ h
  exact pleachref01_Put_p.calls (k := k) (w := w) (h := hk)

end Go.Proofs.Ytaooolfledfhoaa.EVarintRows
