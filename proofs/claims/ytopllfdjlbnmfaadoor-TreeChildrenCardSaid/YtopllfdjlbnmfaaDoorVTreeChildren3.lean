-- Laid by this session's own program (wip/tools/fold.py): this session's texts, cut to what the claim names and put together; Lean checks it.
import Derived.Test.YtopllfdjlbnmfaaDoorVTreeChildren1
import Derived.Test.YtopllfdjlbnmfaaDoorVTreeChildren2
import Derived.Test.YtopllfdjlbnmfaaDoorXTreeChildren1
namespace Go.Proofs.YtopllfdjlbnmfaaDoor.ETreeChildren
open Go.RowKit Go.Proofs.YtopllfdjlbnmfaaDoorW.PrintWords Go.Proofs.YtopllfdjlbnmfaaDoorW.PrintLast Go.Proofs.YtopllfdjlbnmfaaDoorW.PrintMore
attribute [local go_sem] M.run_leq M.run_gtr M.run_geq max2_int min2_int max_two min_two max_three min_three max_four min_four
set_option linter.unusedVariables false
set_option linter.unusedSimpArgs false
def chunk_Twig.f (k : Nat) (a0_0 : Int) (l0_1 : List (S78)) (l0_2 : List Int) (a1 : ByteArray) : Option (ByteArray × ByteArray × Int) := (chunk_Last.f a0_0 l0_1 l0_2).bind fun t108 => ((chunk_Total.f k a0_0 l0_1 l0_2).bind fun t109 => (some (t108, a1, t109)))
theorem chunk_Twig.mono : ∀ a0 a1 a2 a3 k, LeO (chunk_Twig.f k a0 a1 a2 a3) (chunk_Twig.f (k + 1) a0 a1 a2 a3) := by
  intro a0 a1 a2 a3 k
  unfold chunk_Twig.f
  repeat' first
      | (with_reducible exact chunk_Total.mono _ _ _ _)
      | (with_reducible exact LeO.refl _)
      | (with_reducible refine LeO.bind ?_ (fun _ => ?_))
set_option maxHeartbeats 8000000 in
set_option maxRecDepth 100000 in
theorem chunk_Twig.calls (k : Nat) (a0_0 : Int) (A0_1 : Option Addr) (c0_1 : Nat) (l0_1 : List (S78)) (A0_2 : Option Addr) (c0_2 : Nat) (l0_2 : List Int) (a1 : ByteArray) (r1 : ByteArray) (r2 : ByteArray) (r3 : Int) (w : World) (hr0_1 : Kd.C k78 w A0_1 l0_1.length l0_1) (hc0_1 : l0_1.length ≤ c0_1) (hr0_2 : Kd.C (Kd.int .i64) w A0_2 l0_2.length l0_2) (hc0_2 : l0_2.length ≤ c0_2) (h : chunk_Twig.f k a0_0 l0_1 l0_2 a1 = some (r1, r2, r3)) :
    Calls Tryd.prog 39 #[.agg #[.int .i64 a0_0, .slice A0_1 l0_1.length c0_1, .slice A0_2 l0_2.length c0_2], .string a1] w fun e w' => e = .returned (.agg #[.string r1, .string r2, .int .i64 r3]) ∧ Below w.heap.size w w' := by
 have hu26 := Tryd.underlying26
 have hu48 := Tryd.underlying48
 have HR0_1 := Aside0.mk hr0_1
 have HC0_1 := Aside0.mk hc0_1
 clear hr0_1 hc0_1
 have HR0_2 := Aside0.mk hr0_2
 have HC0_2 := Aside0.mk hc0_2
 clear hr0_2 hc0_2
 have HB := Aside0.mk (Below.refl w.heap.size w)
 have H := h; unfold chunk_Twig.f at H
 clear h
 replace H := Option.bind_eq_some_iff.mp H
 obtain ⟨t108, A30, H⟩ := H
 try simp only at H
 have A3 := Aside0.mk A30
 clear A30
 replace H := Option.bind_eq_some_iff.mp H
 obtain ⟨t109, A40, H⟩ := H
 try simp only at H
 have A4 := Aside0.mk A40
 clear A40
 simp only [Option.some.injEq, Prod.mk.injEq] at H
 obtain ⟨rfl, rfl, rfl⟩ := H
 go_enter Tryd.func39, Tryd.ntmps39
 try go_wp2_with (first | ((with_reducible refine gate_dst (N := 2) rfl ?_); refine M.bx 2 26 (#[.int .i64 a0_0, .slice A0_1 l0_1.length c0_1, .slice A0_2 l0_2.length c0_2]) ?_; intro zaa hg w5 hbox hb; have zab := Aside0.mk (hbox); have zac := M.upG HB hg; have zad := M.upG HB hg; replace HB := M.upS HB hb; clear hb hbox hg) | ((with_reducible refine gate_dst (N := 4) rfl ?_); refine M.bx 4 48 (#[.string (⟨#[]⟩ : ByteArray), .string (⟨#[]⟩ : ByteArray), .int .i64 0]) ?_; intro zae hg w6 hbox hb; have zaf := Aside0.mk (hbox); have zag := M.upG HB hg; have zah := M.upG HB hg; replace HB := M.upS HB hb; have zai := M.bkL zab hg; have zaj := M.bkG zab hg; replace zab := M.bkB zab hb; clear hb hbox hg))
 replace zab := Aside0.mk (blk_drew zab.out); replace zaf := Aside0.mk (blk_drew zaf.out); replace HB := Aside0.mk (below_drew1 HB.out)
 refine start_ (n := 7) (S := fun w' => w'.cell? ⟨zaa, 0, none⟩ = some (.int .i64 a0_0) ∧ w'.cell? ⟨zaa, 1, none⟩ = some (.slice A0_1 l0_1.length c0_1) ∧ w'.cell? ⟨zaa, 2, none⟩ = some (.slice A0_2 l0_2.length c0_2)) (ds := []) #[false, false, false, false, false, false, false] (by kernel_rfl) rfl rfl ⟨(blk_cell zab.out 0).trans rfl, (blk_cell zab.out 1).trans rfl, (blk_cell zab.out 2).trans rfl⟩ (fun hHeld => ?_)
 generalize w6.drew = w7 at zab zaf HB hHeld ⊢
 refine pure_ (i := 2) (N := some 7) (v := ?_) (a' := ?_) #[false, false, true, false, false, false, false] rfl rfl (by kernel_rfl) (fun _ _ _ h => h) (Or.inl ⟨by rfl, ?_⟩) ?_ ?_
 rotate_left
 ·intro w'
  go_simp
  with_reducible rfl
 rotate_left
 ·simp only [Act.put, List.setIfInBounds_toArray, List.set_cons_zero, List.set_cons_succ, i64_w, i32_w]
  rfl
 refine take_ (i := 0) (N := some 5) (v := ?_) (a' := ?_) #[true, false, true, false, false, false, false] rfl rfl (by kernel_rfl) (fun _ _ _ h => h) (Or.inl ⟨by rfl, ?_⟩) hHeld ?_ ?_
 rotate_left
 ·rintro w' ⟨s0, s1, s2⟩
  go_simp
  with_reducible rfl
 rotate_left
 ·simp only [Act.put, List.setIfInBounds_toArray, List.set_cons_zero, List.set_cons_succ, i64_w, i32_w]
  rfl
 refine take_ (i := 3) (N := some 8) (v := ?_) (a' := ?_) #[true, false, true, true, false, false, false] rfl rfl (by kernel_rfl) (fun _ _ _ h => h) (Or.inl ⟨by rfl, ?_⟩) hHeld ?_ ?_
 rotate_left
 ·rintro w' ⟨s0, s1, s2⟩
  go_simp
  with_reducible rfl
 rotate_left
 ·simp only [Act.put, List.setIfInBounds_toArray, List.set_cons_zero, List.set_cons_succ, i64_w, i32_w]
  rfl
 refine one_ (i := 1) (N := some 6) #[true, true, true, true, false, false, false] rfl rfl (by kernel_rfl) (by decide) (fun K hK => ?_)
 refine goes_ Tryd.func33 (by kernel_rfl) rfl #[.agg #[.int .i64 a0_0, .slice A0_1 l0_1.length c0_1, .slice A0_2 l0_2.length c0_2]] (by rfl) rfl rfl (by simp only [List.map_toArray, List.map_cons, List.map_nil]; (rfl)) ?_
 with_reducible refine (chunk_Last.calls a0_0 _ _ l0_1 _ _ l0_2 t108 _ ?side1 ?side2 ?side3 ?side4 A3.out).mono ?_
 (case side1 => exact M.cB HR0_1 HB)
 (case side2 => exact HC0_1.out)
 (case side3 => exact M.cB HR0_2 HB)
 (case side4 => exact HC0_2.out)
 rintro e w8 ⟨rfl, hb⟩
 refine ⟨_, rfl, ?_⟩
 replace zab := M.bkB zab hb; replace zaf := M.bkB zaf hb; replace HB := M.upS HB hb
 clear hb
 refine hK.out _ _ ⟨(blk_cell zab.out 0).trans rfl, (blk_cell zab.out 1).trans rfl, (blk_cell zab.out 2).trans rfl⟩ (fun hHeld => ?_)
 clear hK K
 refine norm_ (a' := ?_) ?_ ?_
 rotate_left
 ·show Act.put _ (some 6) _ = _
  simp only [Act.put, List.setIfInBounds_toArray, List.set_cons_zero, List.set_cons_succ, i64_w, i32_w]
  rfl
 refine one_ (i := 4) (N := some 9) #[true, true, true, true, true, false, false] rfl rfl (by kernel_rfl) (by decide) (fun K hK => ?_)
 refine goes_ Tryd.func34 (by kernel_rfl) rfl #[.agg #[.int .i64 a0_0, .slice A0_1 l0_1.length c0_1, .slice A0_2 l0_2.length c0_2]] (by rfl) rfl rfl (by simp only [List.map_toArray, List.map_cons, List.map_nil]; (rfl)) ?_
 with_reducible refine (chunk_Total.calls k a0_0 _ _ l0_1 _ _ l0_2 t109 _ ?side1 ?side2 ?side3 ?side4 A4.out).mono ?_
 (case side1 => exact M.cB HR0_1 HB)
 (case side2 => exact HC0_1.out)
 (case side3 => exact M.cB HR0_2 HB)
 (case side4 => exact HC0_2.out)
 rintro e w9 ⟨rfl, hb⟩
 refine ⟨_, rfl, ?_⟩
 replace zab := M.bkB zab hb; replace zaf := M.bkB zaf hb; replace HB := M.upS HB hb
 clear hb
 refine hK.out _ _ ⟨(blk_cell zab.out 0).trans rfl, (blk_cell zab.out 1).trans rfl, (blk_cell zab.out 2).trans rfl⟩ (fun hHeld => ?_)
 clear hK K
 refine norm_ (a' := ?_) ?_ ?_
 rotate_left
 ·show Act.put _ (some 9) _ = _
  simp only [Act.put, List.setIfInBounds_toArray, List.set_cons_zero, List.set_cons_succ, i64_w, i32_w]
  rfl
 refine pure_ (i := 5) (N := some 10) (v := ?_) (a' := ?_) #[true, true, true, true, true, true, false] rfl rfl (by kernel_rfl) (fun _ _ _ h => h) (Or.inl ⟨by rfl, ?_⟩) ?_ ?_
 rotate_left
 ·intro w'
  go_simp
  with_reducible rfl
 rotate_left
 ·simp only [Act.put, List.setIfInBounds_toArray, List.set_cons_zero, List.set_cons_succ, i64_w, i32_w]
  rfl
 refine one_ (i := 6) (N := none) #[true, true, true, true, true, true, true] rfl rfl (by kernel_rfl) (by decide) (fun K hK => ?_)
 have hs10 : w9.cell? ⟨zae, 0, none⟩ = some (.string (⟨#[]⟩ : ByteArray)) := (blk_cell zaf.out 0).trans rfl
 have hfs10 := blk_frozen zaf.out 0
 have hns10_0 := zai.out
 have hms10_0 := zaj.out
 have hs11 : w9.cell? ⟨zae, 1, none⟩ = some (.string (⟨#[]⟩ : ByteArray)) := (blk_cell zaf.out 1).trans rfl
 have hfs11 := blk_frozen zaf.out 1
 have hns11_0 := zai.out
 have hms11_0 := zaj.out
 have hs12 : w9.cell? ⟨zae, 2, none⟩ = some (.int .i64 0) := (blk_cell zaf.out 2).trans rfl
 have hfs12 := blk_frozen zaf.out 2
 have hns12_0 := zai.out
 have hms12_0 := zaj.out
 refine skip_ (w1 := ?_) (by rfl) rfl ?_ ?_
 rotate_left
 ·go_simp
  rfl
 refine hK.out _ _ ⟨((cell_far (p := ⟨zae, _, none⟩) zai.out _).trans (((cell_far (p := ⟨zae, _, none⟩) zai.out _).trans (((cell_far (p := ⟨zae, _, none⟩) zai.out _).trans (hHeld.1)))))), ((cell_far (p := ⟨zae, _, none⟩) zai.out _).trans (((cell_far (p := ⟨zae, _, none⟩) zai.out _).trans (((cell_far (p := ⟨zae, _, none⟩) zai.out _).trans (hHeld.2.1)))))), ((cell_far (p := ⟨zae, _, none⟩) zai.out _).trans (((cell_far (p := ⟨zae, _, none⟩) zai.out _).trans (((cell_far (p := ⟨zae, _, none⟩) zai.out _).trans (hHeld.2.2))))))⟩ (fun hHeld => ?_)
 clear hK K
 refine done_ (by kernel_rfl) ?_
 try go_wp2
 refine bodyPost_ret (results_cell_row rfl _ _ zae 48 #[.string t108, .string a1, .int .i64 t109] (0, 0) _ rfl (by refine M.fp (cs := #[.string t108, .string a1, .int .i64 0]) ?_ 2; refine M.fp (cs := #[.string t108, .string (⟨#[]⟩ : ByteArray), .int .i64 0]) ?_ 1; refine M.fp (cs := #[.string (⟨#[]⟩ : ByteArray), .string (⟨#[]⟩ : ByteArray), .int .i64 0]) ?_ 0; exact M.bk zaf) Tryd.underlying48 rfl (by kernel_rfl)) rfl ?_
 exact M.fin (M.up HB)
def chunk_counted_p.l0 : Nat → List Int → Int → Int → Int → List (S78) → List Int → Option (Bool)
  | 0, _, _, _, _, _, _ => none
  | k + 1, x13, x14, x15, zak, zal, zam => if x15 < x14 then (if 0 ≤ x15 then (if x15 < (x13.length : Int) then (if (rd x13 x15) < 1 then (some false) else (if (rd x13 x15) > 2147483648 then (some false) else (chunk_counted_p.l0 k x13 x14 (wrap64 (x15 + 1)) zak zal zam))) else (none)) else (none)) else (if (zam.length : Int) = (zal.length : Int) then (some (decide ((zal.length : Int) > 0))) else (some false))
def chunk_counted_p.f (k : Nat) (a0_0 : Int) (l0_1 : List (S78)) (l0_2 : List Int) : Option (Bool) := if a0_0 = 0 then (some ((l0_2.length : Int) == 0)) else (chunk_counted_p.l0 k l0_2 (l0_2.length : Int) 0 a0_0 l0_1 l0_2)
theorem chunk_counted_p.mono_l : ∀ k, (∀ y0 y1 y2 y3 y4 y5, LeO (chunk_counted_p.l0 k y0 y1 y2 y3 y4 y5) (chunk_counted_p.l0 (k + 1) y0 y1 y2 y3 y4 y5))
  | 0 => fun _ _ _ _ _ _ r h => by simp [chunk_counted_p.l0] at h
  | k + 1 => by
    have ih0 := chunk_counted_p.mono_l k
    · intro y0 y1 y2 y3 y4 y5
      unfold chunk_counted_p.l0
      repeat' first
      | (with_reducible exact ih0 _ _ _ _ _ _)
      | (with_reducible exact LeO.refl _)
      | (with_reducible refine LeO.ite ?_ ?_)
theorem chunk_counted_p.mono : ∀ a0 a1 a2 k, LeO (chunk_counted_p.f k a0 a1 a2) (chunk_counted_p.f (k + 1) a0 a1 a2) := by
  intro a0 a1 a2 k
  have ih0 := chunk_counted_p.mono_l k
  unfold chunk_counted_p.f
  repeat' first
      | (with_reducible exact ih0 _ _ _ _ _ _)
      | (with_reducible exact LeO.refl _)
      | (with_reducible refine LeO.ite ?_ ?_)
set_option maxHeartbeats 8000000 in
set_option maxRecDepth 100000 in
theorem chunk_counted_p.calls (k : Nat) (a0_0 : Int) (A0_1 : Option Addr) (c0_1 : Nat) (l0_1 : List (S78)) (A0_2 : Option Addr) (c0_2 : Nat) (l0_2 : List Int) (r : Bool) (w : World) (hr0_1 : Kd.C k78 w A0_1 l0_1.length l0_1) (hc0_1 : l0_1.length ≤ c0_1) (hr0_2 : Kd.C (Kd.int .i64) w A0_2 l0_2.length l0_2) (hc0_2 : l0_2.length ≤ c0_2) (h : chunk_counted_p.f k a0_0 l0_1 l0_2 = some r) :
    Calls Tryd.prog 95 #[.agg #[.int .i64 a0_0, .slice A0_1 l0_1.length c0_1, .slice A0_2 l0_2.length c0_2]] w fun e w' => e = .returned (.bool r) ∧ Below w.heap.size w w' := by
 have hu26 := Tryd.underlying26
 have HR0_1 := Aside0.mk hr0_1
 have HC0_1 := Aside0.mk hc0_1
 clear hr0_1 hc0_1
 have HR0_2 := Aside0.mk hr0_2
 have HC0_2 := Aside0.mk hc0_2
 clear hr0_2 hc0_2
 have HB := Aside0.mk (Below.refl w.heap.size w)
 have H := h; unfold chunk_counted_p.f at H
 clear h
 by_cases c2 : a0_0 = 0
 ·rw [if_pos c2] at H
  have c2b0 : (a0_0 == 0) = true := beq_iff_eq.mpr c2
  have c2b1 : (a0_0 != 0) = false := bne_eq_false_iff_eq.mpr c2
  clear c2
  obtain rfl := Option.some.inj H
  go_enter Tryd.func95, Tryd.ntmps95
  go_wp2_with (((with_reducible refine gate_dst (N := 1) rfl ?_); ((refine gate_guard (by rfl) ?_; dsimp only)); refine M.bx 1 26 (#[.int .i64 a0_0, .slice A0_1 l0_1.length c0_1, .slice A0_2 l0_2.length c0_2]) ?_; intro zan hg w3 hbox hb; have zao := Aside0.mk (hbox); have zap := M.upG HB hg; have zaq := M.upG HB hg; replace HB := M.upS HB hb; clear hb hbox hg; obtain ⟨zar, zas, zat⟩ := M.bc3 (w := w3) (a := .int .i64 a0_0) (b := .slice A0_1 l0_1.length c0_1) (c := .slice A0_2 l0_2.length c0_2) zao.out; obtain ⟨zau, zav, zaw⟩ := M.bf3 zao))
  go_ret
  exact M.fin (M.up HB)
 ·rw [if_neg c2] at H
  have c2b0 : (a0_0 == 0) = false := beq_eq_false_iff_ne.mpr c2
  have c2b1 : (a0_0 != 0) = true := bne_iff_ne.mpr c2
  have H' := Aside0.mk H
  clear H
  go_enter Tryd.func95, Tryd.ntmps95
  go_wp2_with (((with_reducible refine gate_dst (N := 1) rfl ?_); ((refine gate_guard (by rfl) ?_; dsimp only)); refine M.bx 1 26 (#[.int .i64 a0_0, .slice A0_1 l0_1.length c0_1, .slice A0_2 l0_2.length c0_2]) ?_; intro zan hg w5 hbox hb; have zao := Aside0.mk (hbox); have zap := M.upG HB hg; have zaq := M.upG HB hg; replace HB := M.upS HB hb; clear hb hbox hg; obtain ⟨zax, zay, zaz⟩ := M.bc3 (w := w5) (a := .int .i64 a0_0) (b := .slice A0_1 l0_1.length c0_1) (c := .slice A0_2 l0_2.length c0_2) zao.out; obtain ⟨zaA, zaB, zaC⟩ := M.bf3 zao))
  go_loopg [15] k (fun kq v15 w' => ∃ (x15_1 : Int), v15 = .int .i64 x15_1 ∧ Aside0 (chunk_counted_p.l0 kq l0_2 (l0_2.length : Int) x15_1 a0_0 l0_1 l0_2 = some r) ∧ Aside0 (kq ≤ k) ∧ Aside0 (w'.heap[zan]? = some (.cells #[.int .i64 a0_0, (.slice A0_1 l0_1.length c0_1), (.slice A0_2 l0_2.length c0_2)] 26 (0, 0))) ∧ Aside0 (Below w.heap.size w w'))
  case atStart => exact ⟨(0), M.eqv, H', ⟨Nat.le_refl _⟩, ⟨M.bk zao⟩, ⟨M.up HB⟩⟩
  case round =>
   clear H'
   clear c2 c2b0 c2b1 zax zay zaz zaA zaB zaC
   obtain ⟨x15_1, rfl, HA, HK1, zao, HB⟩ := hrel
   cases gk with
   | zero => exact absurd HA.out (by simp [chunk_counted_p.l0])
   | succ k1 =>
    have H := HA.out
    clear HA
    simp only [chunk_counted_p.l0] at H
    by_cases c7 : x15_1 < (l0_2.length : Int)
    ·rw [if_pos c7] at H
     have c7b0 := decide_eq_true c7
     clear c7
     by_cases c8 : 0 ≤ x15_1
     ·rw [if_pos c8] at H
      have c8b0 := decide_eq_true c8
      clear c8
      by_cases c9 : x15_1 < (l0_2.length : Int)
      ·rw [if_pos c9] at H
       have c9b0 := decide_eq_true c9
       clear c9
       by_cases c10 : (rd l0_2 x15_1) < 1
       ·rw [if_pos c10] at H
        have c10b0 := decide_eq_true c10
        clear c10
        obtain rfl := Option.some.inj H
        have p111 : 0 ≤ (x15_1 : Int) := M.dt
        have q111 : x15_1 < (l0_2.length : Int) := M.dt
        obtain ⟨ad111, e111, hx111_0⟩ := Kd.at_int HR0_2.out x15_1 p111 q111
        cases e111
        replace hx111_0 := M.hc HB hx111_0
        replace p111 := eq_true p111
        replace q111 := eq_true q111
        go_wp2
        go_ret
        exact M.fin (M.up HB)
       ·rw [if_neg c10] at H
        have c10b0 := decide_eq_false c10
        clear c10
        by_cases c11 : (rd l0_2 x15_1) > 2147483648
        ·rw [if_pos c11] at H
         have c11b0 := decide_eq_true c11
         clear c11
         obtain rfl := Option.some.inj H
         have p111 : 0 ≤ (x15_1 : Int) := M.dt
         have q111 : x15_1 < (l0_2.length : Int) := M.dt
         obtain ⟨ad111, e111, hx111_0⟩ := Kd.at_int HR0_2.out x15_1 p111 q111
         cases e111
         replace hx111_0 := M.hc HB hx111_0
         replace p111 := eq_true p111
         replace q111 := eq_true q111
         go_wp2
         go_ret
         exact M.fin (M.up HB)
        ·rw [if_neg c11] at H
         have c11b0 := decide_eq_false c11
         clear c11
         have H' := Aside0.mk H
         clear H
         have p111 : 0 ≤ (x15_1 : Int) := M.dt
         have q111 : x15_1 < (l0_2.length : Int) := M.dt
         obtain ⟨ad111, e111, hx111_0⟩ := Kd.at_int HR0_2.out x15_1 p111 q111
         cases e111
         replace hx111_0 := M.hc HB hx111_0
         replace p111 := eq_true p111
         replace q111 := eq_true q111
         go_wp2
         go_roundg k1
         case measure => have := HK1.out; omega
         case rel => exact ⟨(wrap64 (x15_1 + 1)), M.eqv, H', ⟨by have := HK1.out; omega⟩, ⟨M.bk zao⟩, ⟨M.up HB⟩⟩
      ·exact M.nf c9 H
     ·exact M.nf c8 H
    ·rw [if_neg c7] at H
     have c7b0 := decide_eq_false c7
     clear c7
     by_cases c12 : (l0_2.length : Int) = (l0_1.length : Int)
     ·rw [if_pos c12] at H
      have c12b0 : ((l0_2.length : Int) == (l0_1.length : Int)) = true := beq_iff_eq.mpr c12
      have c12b1 : ((l0_2.length : Int) != (l0_1.length : Int)) = false := bne_eq_false_iff_eq.mpr c12
      have c12b2 : (l0_2.length == l0_1.length) = true := by (simp at c12 ⊢; omega)
      clear c12
      obtain rfl := Option.some.inj H
      obtain ⟨zaD, zaE, zaF⟩ := M.bc3 (w := wr) (a := .int .i64 a0_0) (b := .slice A0_1 l0_1.length c0_1) (c := .slice A0_2 l0_2.length c0_2) zao.out
      obtain ⟨zaG, zaH, zaI⟩ := M.bf3 zao
      go_wp2
      go_ret
      exact M.fin (M.up HB)
     ·rw [if_neg c12] at H
      have c12b0 : ((l0_2.length : Int) == (l0_1.length : Int)) = false := beq_eq_false_iff_ne.mpr c12
      have c12b1 : ((l0_2.length : Int) != (l0_1.length : Int)) = true := bne_iff_ne.mpr c12
      have c12b2 : (l0_2.length == l0_1.length) = false := by (simp at c12 ⊢; omega)
      obtain rfl := Option.some.inj H
      obtain ⟨zaJ, zaK, zaL⟩ := M.bc3 (w := wr) (a := .int .i64 a0_0) (b := .slice A0_1 l0_1.length c0_1) (c := .slice A0_2 l0_2.length c0_2) zao.out
      obtain ⟨zaM, zaN, zaO⟩ := M.bf3 zao
      go_wp2
      go_ret
      exact M.fin (M.up HB)
def chunk_fits.ok (lv : Int) (k v : ByteArray) : Bool := decide (0 < k.size ∧ k.size ≤ 64 ∧ (if lv > 0 then v.size = 32 else v.size ≤ 2048))
def chunk_fits.counted (lv : Int) (es : List S78) (cs : List Int) : Bool := if lv = 0 then decide (cs.length = 0) else (cs.all fun n => decide (1 ≤ n ∧ n ≤ 2147483648)) && decide (cs.length = es.length ∧ 0 < es.length)
def chunk_fits.go (lv : Int) : Option ByteArray → List S78 → Int
  | _, [] => 0
  | prev, e :: l => if chunk_fits.ok lv e.f0 e.f1 = true then (match prev with | some p => if Op.bytesLess p.toList e.f0.toList = true then chunk_fits.go lv (some e.f0) l else 4 | none => chunk_fits.go lv (some e.f0) l) else 2
def chunk_fits.wrong (lv : Int) (es : List S78) (cs : List Int) : Int := if lv < 0 ∨ 40 < lv ∨ 8 < es.length ∨ chunk_fits.counted lv es cs = false then 2 else chunk_fits.go lv none es
def chunk_fits.enc (lv : Int) : List S78 → List Int → List UInt8
  | [], _ => []
  | e :: l, cs => (M.vb e.f0.size ++ M.bs e.f0) ++ (if lv > 0 then M.bs e.f1 ++ M.vb (cs.headD 0).toNat else M.vb e.f1.size ++ M.bs e.f1) ++ chunk_fits.enc lv l cs.tail
def chunk_fits.text (lv : Int) (es : List S78) (cs : List Int) : List UInt8 := ((if lv > 0 then 73 :: M.vb lv.toNat else [76]) ++ M.vb es.length) ++ chunk_fits.enc lv es cs
def chunk_fits.read (s : ByteArray) (lv : Int) : Nat → Int → Int → List S78 × List Int × Int × Int
  | 0, p, er => ([], [], p, er)
  | n + 1, p, er =>
    if lv > 0 then
      (⟨(M.xtext s p er 64).1, (M.xfix s (M.xtext s p er 64).2.1 (M.xtext s p er 64).2.2 32).1⟩ :: (chunk_fits.read s lv n (M.xnum s (M.xfix s (M.xtext s p er 64).2.1 (M.xtext s p er 64).2.2 32).2.1 (M.xfix s (M.xtext s p er 64).2.1 (M.xtext s p er 64).2.2 32).2.2 2147483648).2.1 (M.xnum s (M.xfix s (M.xtext s p er 64).2.1 (M.xtext s p er 64).2.2 32).2.1 (M.xfix s (M.xtext s p er 64).2.1 (M.xtext s p er 64).2.2 32).2.2 2147483648).2.2).1,
       (M.xnum s (M.xfix s (M.xtext s p er 64).2.1 (M.xtext s p er 64).2.2 32).2.1 (M.xfix s (M.xtext s p er 64).2.1 (M.xtext s p er 64).2.2 32).2.2 2147483648).1 :: (chunk_fits.read s lv n (M.xnum s (M.xfix s (M.xtext s p er 64).2.1 (M.xtext s p er 64).2.2 32).2.1 (M.xfix s (M.xtext s p er 64).2.1 (M.xtext s p er 64).2.2 32).2.2 2147483648).2.1 (M.xnum s (M.xfix s (M.xtext s p er 64).2.1 (M.xtext s p er 64).2.2 32).2.1 (M.xfix s (M.xtext s p er 64).2.1 (M.xtext s p er 64).2.2 32).2.2 2147483648).2.2).2.1,
       (chunk_fits.read s lv n (M.xnum s (M.xfix s (M.xtext s p er 64).2.1 (M.xtext s p er 64).2.2 32).2.1 (M.xfix s (M.xtext s p er 64).2.1 (M.xtext s p er 64).2.2 32).2.2 2147483648).2.1 (M.xnum s (M.xfix s (M.xtext s p er 64).2.1 (M.xtext s p er 64).2.2 32).2.1 (M.xfix s (M.xtext s p er 64).2.1 (M.xtext s p er 64).2.2 32).2.2 2147483648).2.2).2.2)
    else
      (⟨(M.xtext s p er 64).1, (M.xtext s (M.xtext s p er 64).2.1 (M.xtext s p er 64).2.2 2048).1⟩ :: (chunk_fits.read s lv n (M.xtext s (M.xtext s p er 64).2.1 (M.xtext s p er 64).2.2 2048).2.1 (M.xtext s (M.xtext s p er 64).2.1 (M.xtext s p er 64).2.2 2048).2.2).1,
       (chunk_fits.read s lv n (M.xtext s (M.xtext s p er 64).2.1 (M.xtext s p er 64).2.2 2048).2.1 (M.xtext s (M.xtext s p er 64).2.1 (M.xtext s p er 64).2.2 2048).2.2).2)
theorem chunk_fits.go_ok (lv : Int) : ∀ (es : List S78) (prev : Option ByteArray), chunk_fits.go lv prev es = 0 → ∀ e ∈ es, chunk_fits.ok lv e.f0 e.f1 = true
  | [], _, _, _, hx => absurd hx List.not_mem_nil
  | e :: l, prev, h, x, hx => by
    unfold chunk_fits.go at h
    by_cases hk : chunk_fits.ok lv e.f0 e.f1 = true
    · rw [if_pos hk] at h
      rcases List.mem_cons.1 hx with rfl | hx
      · exact hk
      · cases prev with
        | none => exact chunk_fits.go_ok lv l _ h x hx
        | some p =>
          simp only at h
          split at h
          · exact chunk_fits.go_ok lv l _ h x hx
          · cases h
    · rw [if_neg hk] at h; cases h
theorem chunk_fits.wrong_ok {lv : Int} {es : List S78} {cs : List Int} (h : chunk_fits.wrong lv es cs = 0) : 0 ≤ lv ∧ lv ≤ 40 ∧ es.length ≤ 8 ∧ (lv > 0 → cs.length = es.length ∧ ∀ n ∈ cs, 1 ≤ n ∧ n ≤ 2147483648) ∧ (lv = 0 → cs = []) ∧ ∀ e ∈ es, chunk_fits.ok lv e.f0 e.f1 = true := by
 unfold chunk_fits.wrong at h
 split at h
 ·cases h
 ·rename_i hh
  have hc : chunk_fits.counted lv es cs = true := by
   cases hb : chunk_fits.counted lv es cs with
   | true => rfl
   | false => exact absurd (.inr (.inr (.inr hb))) hh
  have h1 : ¬ lv < 0 := fun z => hh (.inl z)
  have h2 : ¬ 40 < lv := fun z => hh (.inr (.inl z))
  have h3 : ¬ 8 < es.length := fun z => hh (.inr (.inr (.inl z)))
  unfold chunk_fits.counted at hc
  refine ⟨by omega, by omega, by omega, fun hl => ?_, fun hl => ?_, chunk_fits.go_ok lv es none h⟩
  ·rw [if_neg (by omega), Bool.and_eq_true, List.all_eq_true] at hc
   exact ⟨(of_decide_eq_true hc.2).1, fun n hn => of_decide_eq_true (hc.1 n hn)⟩
  ·rw [if_pos hl] at hc
   exact List.eq_nil_of_length_eq_zero (of_decide_eq_true hc)
def chunk_counted.f (a0_0 : Int) (l0_1 : List S78) (l0_2 : List Int) : Option Bool := if l0_2.length ≤ 9223372036854775806 ∧ l0_1.length ≤ 9223372036854775806 then some (chunk_fits.counted a0_0 l0_1 l0_2) else none
theorem chunk_counted.loop (lv : Int) (es : List S78) (cs : List Int) (hc : cs.length ≤ 9223372036854775806) (d : Nat) : ∀ i : Nat, i + d = cs.length →
    chunk_counted_p.l0 (d + 1) cs (cs.length : Int) (i : Int) lv es cs = some (((cs.drop i).all fun n => decide (1 ≤ n ∧ n ≤ 2147483648)) && decide (cs.length = es.length ∧ 0 < es.length)) := by
 induction d with
 | zero =>
  intro i hi
  simp only [chunk_counted_p.l0]
  rw [if_neg (by omega), List.drop_of_length_le (by omega)]
  by_cases h : cs.length = es.length
  ·rw [if_pos (by omega)]
   congr 1
   simp only [List.all_nil, Bool.true_and]
   apply decide_eq_decide.2; omega
  ·rw [if_neg (by omega)]
   congr 1
   simp only [List.all_nil, Bool.true_and]
   exact (decide_eq_false (fun z => h z.1)).symm
 | succ d ih =>
  intro i hi
  have hlt : i < cs.length := by omega
  have hrd : rd cs (i : Int) = cs[i] := by simp [rd, List.getD, hlt]
  rw [chunk_counted_p.l0, if_pos (by omega), if_pos (by omega), if_pos (by omega), hrd, M.wrap64_id (by omega) (by omega), show (i : Int) + 1 = ((i + 1 : Nat) : Int) from by omega, ih (i + 1) (by omega), List.drop_eq_getElem_cons hlt, List.all_cons]
  generalize cs[i] = n
  by_cases h0 : n < 1
  ·rw [if_pos h0, show decide (1 ≤ n ∧ n ≤ 2147483648) = false from decide_eq_false (fun z => by omega)]; rfl
  ·rw [if_neg h0]
   by_cases h1 : n > 2147483648
   ·rw [if_pos h1, show decide (1 ≤ n ∧ n ≤ 2147483648) = false from decide_eq_false (fun z => by omega)]; rfl
   ·rw [if_neg h1, show decide (1 ≤ n ∧ n ≤ 2147483648) = true from decide_eq_true ⟨by omega, by omega⟩, Bool.true_and]
theorem chunk_counted.ev (lv : Int) (es : List S78) (cs : List Int) (r : Bool) (h : chunk_counted.f lv es cs = some r) : ∃ k, chunk_counted_p.f k lv es cs = some r := by
 unfold chunk_counted.f at h
 split at h
 case isFalse => cases h
 case isTrue hh =>
  refine ⟨cs.length + 1, ?_⟩
  rw [← h]
  unfold chunk_counted_p.f chunk_fits.counted
  by_cases h0 : lv = 0
  ·rw [if_pos h0, if_pos h0]
   congr 1
   by_cases hz : cs.length = 0
   ·rw [decide_eq_true hz]; simp [hz]
   ·rw [decide_eq_false hz]; simp; intro e; rw [e] at hz; exact hz rfl
  ·rw [if_neg h0, if_neg h0]
   have := chunk_counted.loop lv es cs hh.1 cs.length 0 (by omega)
   rw [List.drop_zero] at this
   exact this
theorem chunk_counted.calls (a0_0 : Int) (A0_1 : Option Addr) (c0_1 : Nat) (l0_1 : List (S78)) (A0_2 : Option Addr) (c0_2 : Nat) (l0_2 : List Int) (r : Bool) (w : World) (hr0_1 : Kd.C k78 w A0_1 l0_1.length l0_1) (hc0_1 : l0_1.length ≤ c0_1) (hr0_2 : Kd.C (Kd.int .i64) w A0_2 l0_2.length l0_2) (hc0_2 : l0_2.length ≤ c0_2) (h : chunk_counted.f a0_0 l0_1 l0_2 = some r) :
    Calls Tryd.prog 95 #[.agg #[.int .i64 a0_0, .slice A0_1 l0_1.length c0_1, .slice A0_2 l0_2.length c0_2]] w fun e w' => e = .returned (.bool r) ∧ Below w.heap.size w w' := by
 obtain ⟨k, hk⟩ := chunk_counted.ev _ _ _ _ h
 exact chunk_counted_p.calls (k := k) (w := w) (h := hk) (hr0_1 := hr0_1) (hc0_1 := hc0_1) (hr0_2 := hr0_2) (hc0_2 := hc0_2)
def chunk_fits_p.j0 : Nat → Int → Bool → ByteArray → ByteArray → Option (Bool)
  | 0, _, _, _, _ => none
  | k + 1, x0, x13, zaP, zaQ => if x13 = true then (some false) else (if x0 > 0 then (some ((zaQ.size : Int) == 32)) else (some (decide ((zaQ.size : Int) ≤ 2048))))
def chunk_fits_p.f (k : Nat) (a0 : Int) (a1_0 : ByteArray) (a1_1 : ByteArray) : Option (Bool) := if a1_0.toList = ([] : List UInt8) then (chunk_fits_p.j0 k a0 true a1_0 a1_1) else (chunk_fits_p.j0 k a0 (decide ((a1_0.size : Int) > 64)) a1_0 a1_1)
theorem chunk_fits_p.mono_l : ∀ k, (∀ y0 y1 y2 y3, LeO (chunk_fits_p.j0 k y0 y1 y2 y3) (chunk_fits_p.j0 (k + 1) y0 y1 y2 y3))
  | 0 => fun _ _ _ _ r h => by simp [chunk_fits_p.j0] at h
  | k + 1 => by
    have ih0 := chunk_fits_p.mono_l k
    · intro y0 y1 y2 y3
      unfold chunk_fits_p.j0
      repeat' (with_reducible exact LeO.refl _)
theorem chunk_fits_p.mono : ∀ a0 a1 a2 k, LeO (chunk_fits_p.f k a0 a1 a2) (chunk_fits_p.f (k + 1) a0 a1 a2) := by
  intro a0 a1 a2 k
  have ih0 := chunk_fits_p.mono_l k
  unfold chunk_fits_p.f
  repeat' first
      | (with_reducible exact ih0 _ _ _ _)
      | (with_reducible refine LeO.ite ?_ ?_)
set_option maxHeartbeats 8000000 in
set_option maxRecDepth 100000 in
theorem chunk_fits_p.calls (k : Nat) (a0 : Int) (a1_0 : ByteArray) (a1_1 : ByteArray) (r : Bool) (w : World) (h : chunk_fits_p.f k a0 a1_0 a1_1 = some r) :
    Calls Tryd.prog 96 #[.int .i64 a0, .agg #[.string a1_0, .string a1_1]] w fun e w' => e = .returned (.bool r) ∧ Below w.heap.size w w' := by
 have hu78 := Tryd.underlying78
 have HB := Aside0.mk (Below.refl w.heap.size w)
 have H := h; unfold chunk_fits_p.f at H
 clear h
 have HC3 := Aside0.mk H
 clear H
 go_enter Tryd.func96, Tryd.ntmps96
 go_upto_region 1 with (((with_reducible refine gate_dst (N := 3) rfl ?_); ((refine gate_guard (by rfl) ?_; dsimp only)); refine M.bx 3 78 (#[.string a1_0, .string a1_1]) ?_; intro zaR hg w4 hbox hb; have zaS := Aside0.mk (hbox); have zaT := M.upG HB hg; have zaU := M.upG HB hg; replace HB := M.upS HB hb; clear hb hbox hg))
 go_cut [13] (fun v13 wc => ∃ (kq : Nat) (x13_2 : Bool), v13 = .bool x13_2 ∧ Aside0 (chunk_fits_p.j0 kq a0 x13_2 a1_0 a1_1 = some r) ∧ Aside0 (kq ≤ k) ∧ Aside0 (wc.heap[zaR]? = some (.cells #[.string a1_0, .string a1_1] 78 (0, 0))) ∧ Aside0 (Below w.heap.size w wc))
 case first =>
  have H := HC3.out
  clear HC3
  by_cases c5 : a1_0.toList = ([] : List UInt8)
  ·rw [if_pos c5] at H
   have c5b0 : (a1_0.toList == ([] : List UInt8)) = true := beq_iff_eq.mpr c5
   have c5b1 : (a1_0.toList != ([] : List UInt8)) = false := bne_eq_false_iff_eq.mpr c5
   clear c5
   ((skip))
   have H' := Aside0.mk H
   clear H
   obtain ⟨zax, zay⟩ := M.bc2 (w := w4) (a := .string a1_0) (b := .string a1_1) zaS.out
   obtain ⟨zaA, zaB⟩ := M.bf2 zaS
   go_wp2
   go_meet
   case rel => exact ⟨_, (true), M.eqv, H', ⟨by (omega)⟩, ⟨M.bk zaS⟩, ⟨M.up HB⟩⟩
  ·rw [if_neg c5] at H
   have c5b0 : (a1_0.toList == ([] : List UInt8)) = false := beq_eq_false_iff_ne.mpr c5
   have c5b1 : (a1_0.toList != ([] : List UInt8)) = true := bne_iff_ne.mpr c5
   ((skip))
   have H' := Aside0.mk H
   clear H
   obtain ⟨zaV, zaW⟩ := M.bc2 (w := w4) (a := .string a1_0) (b := .string a1_1) zaS.out
   obtain ⟨zaX, zaY⟩ := M.bf2 zaS
   go_wp2
   go_meet
   case rel => exact ⟨_, (decide ((a1_0.size : Int) > 64)), M.eqv, H', ⟨by (omega)⟩, ⟨M.bk zaS⟩, ⟨M.up HB⟩⟩
 case rest =>
  clear HC3
  obtain ⟨kq, x13_2, rfl, HA, HJ2, zaS, HB⟩ := hcut
  cases kq with
  | zero => exact absurd HA.out (by simp [chunk_fits_p.j0])
  | succ kj2 =>
   have H := HA.out
   clear HA
   simp only [chunk_fits_p.j0] at H
   by_cases c8 : x13_2 = true
   ·subst c8
    have H1 := H; rw [if_pos rfl] at H1
    clear H
    have H := H1
    clear H1
    obtain rfl := Option.some.inj H
    go_wp2
    go_ret
    exact M.fin (M.up HB)
   ·replace c8 := Bool.eq_false_iff.mpr c8
    subst c8
    have H1 : (if a0 > 0 then (some ((a1_1.size : Int) == 32)) else (some (decide ((a1_1.size : Int) ≤ 2048)))) = some r := by rw [if_neg (show ¬ (false = true) by decide)] at H; exact H
    clear H
    have H := H1
    clear H1
    by_cases c9 : a0 > 0
    ·rw [if_pos c9] at H
     have c9b0 := decide_eq_true c9
     clear c9
     obtain rfl := Option.some.inj H
     obtain ⟨zaZ, za0⟩ := M.bc2 (w := wc) (a := .string a1_0) (b := .string a1_1) zaS.out
     obtain ⟨za1, za2⟩ := M.bf2 zaS
     go_wp2
     go_ret
     exact M.fin (M.up HB)
    ·rw [if_neg c9] at H
     have c9b0 := decide_eq_false c9
     clear c9
     obtain rfl := Option.some.inj H
     obtain ⟨za3, za4⟩ := M.bc2 (w := wc) (a := .string a1_0) (b := .string a1_1) zaS.out
     obtain ⟨za5, za6⟩ := M.bf2 zaS
     go_wp2
     go_ret
     exact M.fin (M.up HB)
def chunk_fits.f (a0 : Int) (a1_0 : ByteArray) (a1_1 : ByteArray) : Option Bool := some (chunk_fits.ok a0 a1_0 a1_1)
theorem chunk_fits.nil (s : ByteArray) : s.toList = ([] : List UInt8) ↔ s.size = 0 := by
 rw [M.toList_bs, ← M.bs_length, List.length_eq_zero_iff]
theorem chunk_fits.ev (lv : Int) (k v : ByteArray) (r : Bool) (h : chunk_fits.f lv k v = some r) : ∃ n, chunk_fits_p.f n lv k v = some r := by
 refine ⟨1, ?_⟩
 rw [← h]
 unfold chunk_fits_p.f chunk_fits.f chunk_fits.ok
 have e : ∀ b, chunk_fits_p.j0 1 lv b k v = if b = true then some false else if lv > 0 then some ((v.size : Int) == 32) else some (decide ((v.size : Int) ≤ 2048)) := fun b => by simp only [chunk_fits_p.j0]
 by_cases h0 : k.size = 0
 ·rw [if_pos ((chunk_fits.nil k).2 h0), e, if_pos rfl]
  congr 1
  exact (decide_eq_false (by omega)).symm
 ·rw [if_neg (fun z => h0 ((chunk_fits.nil k).1 z)), e]
  by_cases h1 : (k.size : Int) > 64
  ·rw [if_pos (decide_eq_true h1)]
   congr 1
   exact (decide_eq_false (by omega)).symm
  ·rw [decide_eq_false h1, if_neg (by simp)]
   by_cases hl : lv > 0
   ·rw [if_pos hl]
    congr 1
    simp only [if_pos hl]
    by_cases hv : v.size = 32
    ·rw [decide_eq_true ⟨by omega, by omega, hv⟩]; simp [hv]
    ·rw [decide_eq_false (fun z => hv z.2.2)]; simp; omega
   ·rw [if_neg hl]
    congr 1
    simp only [if_neg hl]
    apply decide_eq_decide.2; omega
theorem chunk_fits.calls (a0 : Int) (a1_0 : ByteArray) (a1_1 : ByteArray) (r : Bool) (w : World) (h : chunk_fits.f a0 a1_0 a1_1 = some r) :
    Calls Tryd.prog 96 #[.int .i64 a0, .agg #[.string a1_0, .string a1_1]] w fun e w' => e = .returned (.bool r) ∧ Below w.heap.size w w' := by
 obtain ⟨k, hk⟩ := chunk_fits.ev _ _ _ _ h
 exact chunk_fits_p.calls (k := k) (w := w) (h := hk)
end Go.Proofs.YtopllfdjlbnmfaaDoor.ETreeChildren
