-- Written by this session's own program (wip/tools/ext.py) for this claim; Lean checks it.
import Derived.Test.YtkaglpjdeinbhaaERefsChecksx0
import Derived.Test.YtkaglpjdeinbhaaERefsChecksx3
namespace Go.Proofs.Ytkaglpjdeinbhaa.ERefsChecks
open Go.RowKit Go.Proofs.YtkaglpjdeinbhaaW.PrintWords Go.Proofs.YtkaglpjdeinbhaaW.PrintLast Go.Proofs.YtkaglpjdeinbhaaW.PrintMore
attribute [local go_sem] M.run_leq M.run_gtr M.run_geq max2_int min2_int max_two min_two max_three min_three max_four min_four   -- for this text's walks alone
set_option linter.unusedVariables false
set_option linter.unusedSimpArgs false

/-! ### api_Ref_38: function 38 -/
def refs_bsf.less (x : S42) (kind : Int) (s : ByteArray) : Prop := M.rcmp x.f0 x.f1 kind s < 0
/-- Up to p all stand ahead, from p on none. -/
def refs_bsf.parts (l : List S42) (kind : Int) (s : ByteArray) (p : Nat) : Prop := p ≤ l.length ∧ (∀ i, i < p → refs_bsf.less (rd_T42 l i) kind s) ∧ ∀ i : Nat, p ≤ i → i < l.length → ¬ refs_bsf.less (rd_T42 l i) kind s
theorem refs_bsf.cmp_ (a0_0 : Int) (a0_1 : ByteArray) (a0_2 : ByteArray) (a1_0 : Int) (a1_1 : ByteArray) (a1_2 : ByteArray) (w : World) :
    Calls Try.prog 18 #[.agg #[.int .i64 a0_0, .string a0_1, .string a0_2], .agg #[.int .i64 a1_0, .string a1_1, .string a1_2]] w fun e w' => e = .returned (.int .i64 (M.rcmp a0_0 a0_1 a1_0 a1_1)) ∧ Below w.heap.size w w' :=
  refs_Compare.calls a0_0 a0_1 a0_2 a1_0 a1_1 a1_2 _ w rfl
set_option maxHeartbeats 8000000 in
set_option maxRecDepth 100000 in
theorem refs_bsf.walk (A : Option Addr) (c : Nat) (l : List S42) (kind : Int) (s hh : ByteArray) (p : Nat) (w : World) (hr : Kd.C k42 w A l.length l) (hc : l.length ≤ 1000000000) (hp : refs_bsf.parts l kind s p) :
    Calls Try.prog 38 #[.slice A l.length c, .agg #[.int .i64 kind, .string s, .string hh], .func (.func 18) #[] #[]] w fun e w' => e = .returned (.tuple #[.int .i64 (p : Int), .bool (decide (p < l.length ∧ M.rcmp (rd_T42 l p).f0 (rd_T42 l p).f1 kind s = 0))]) ∧ Below w.heap.size w w' := by
  have hu := Try.underlying42
  have HR := Aside0.mk hr
  have HP := Aside0.mk hp
  have HB := Aside0.mk (below_alloc (Below.refl w.heap.size w) (.cells #[.int .i64 kind, .string s, .string hh] 42))
  have HC := Aside0.mk (M.rec_new w 42 [.int .i64 kind, .string s, .string hh])
  clear hr hp
  go_enter Try.func38, Try.ntmps38
  go_wp2
  go_loopg [9, 10] (l.length) (fun kq v9 v10 wr => ∃ (i j : Nat), v9 = .int .i64 (i : Int) ∧ v10 = .int .i64 (j : Int) ∧ Aside0 (kq = j - i) ∧ i ≤ p ∧ p ≤ j ∧ j ≤ l.length ∧ Aside0 (Below w.heap.size w wr) ∧ Aside0 (M.rec_ wr w.heap.size 42 [.int .i64 kind, .string s, .string hh]))
  case atStart => exact ⟨0, l.length, rfl, rfl, ⟨rfl⟩, Nat.zero_le _, HP.out.1, Nat.le_refl _, HB, HC⟩
  case round =>
    clear HB HC
    obtain ⟨i, j, rfl, rfl, hkq, hip, hpj, hjl, HB, HC⟩ := hrel
    by_cases hij : i < j
    · have hd := decide_eq_true (show (i : Int) < (j : Int) by omega)
      obtain ⟨m, hm⟩ : ∃ m, m = (i + j) / 2 := ⟨_, rfl⟩
      have hm1 : i ≤ m := by omega
      have hm2 : m < j := by omega
      obtain ⟨ad, hA, e0, e1, e2⟩ := at_T42 HR.out (m : Int) (by omega) (by omega)
      rw [Int.toNat_natCast] at e0 e1 e2
      subst hA
      obtain ⟨k1, k2, k3, hx0, hx1, hx2⟩ : ∃ k1 k2 k3, (rd_T42 l (m : Int)).f0 = k1 ∧ (rd_T42 l (m : Int)).f1 = k2 ∧ (rd_T42 l (m : Int)).f2 = k3 := ⟨_, _, _, rfl, rfl, rfl⟩
      rw [hx0] at e0
      rw [hx1] at e1
      rw [hx2] at e2
      have hl0 := World.block_lt_of_cell? w _ e0
      have hl1 := World.block_lt_of_cell? w _ e1
      have hl2 := World.block_lt_of_cell? w _ e2
      replace e0 := (HB.out.cell hl0).trans e0
      replace e1 := (HB.out.cell hl1).trans e1
      replace e2 := (HB.out.cell hl2).trans e2
      have g0 := M.rec_cell HC.out 0 _ rfl
      have g1 := M.rec_cell HC.out 1 _ rfl
      have g2 := M.rec_cell HC.out 2 _ rfl
      have p1 : (m : Int) < (l.length : Int) := by omega
      have p2 : (0 : Int) ≤ (m : Int) := by omega
      have hv : ((i : Int) + (j : Int)) / 2 = (m : Int) := by omega
      have HX0 := Aside0.mk hx0
      have HX1 := Aside0.mk hx1
      clear hl0 hl1 hl2 hx0 hx1 hx2 hm
      go_upto_region 5 with (fail)
      clear hv
      go_region_with (go_at_call 18; (with_reducible refine (refs_bsf.cmp_ k1 k2 k3 kind s hh _).mono ?_); rintro e w1 ⟨rfl, hb⟩; have HB1 : Aside0 (Below w.heap.size w w1) := ⟨below_step (below_drew HB.out) hb⟩; have HC1 := Aside0.mk (M.rec_below (by first | exact HC.out | exact M.rec_drew HC.out) hb); clear hb)
      all_goals
        have HN := Aside0.mk (show refs_bsf.less (rd_T42 l (m : Int)) kind s ↔ M.rcmp k1 k2 kind s < 0 by unfold refs_bsf.less; rw [HX0.out, HX1.out])
        clear e0 e1 e2 g0 g1 g2 HC HB
        generalize M.rcmp k1 k2 kind s = q at HN ⊢
        by_cases hq : q < 0
        · have hd2 := decide_eq_true hq
          have hm3 : m + 1 ≤ p := by
            rcases Nat.lt_or_ge m p with g | g
            · exact g
            · exact absurd (HN.out.2 hq) (HP.out.2.2 m g (by omega))
          go_wp2
          go_roundg (j - (m + 1))
          case measure => have := hkq.out; omega
          case rel => exact ⟨m + 1, j, by go_num, rfl, ⟨rfl⟩, hm3, hpj, hjl, HB1, HC1⟩
        · have hd2 := decide_eq_false hq
          have hm3 : p ≤ m := by
            rcases Nat.lt_or_ge m p with g | g
            · exact absurd (HN.out.1 (HP.out.2.1 m g)) hq
            · exact g
          go_wp2
          go_roundg (m - i)
          case measure => have := hkq.out; omega
          case rel => exact ⟨i, m, rfl, rfl, ⟨rfl⟩, hip, hm3, by omega, HB1, HC1⟩
    · obtain rfl : i = p := by omega
      obtain rfl : j = i := by omega
      have hd := decide_eq_false (show ¬ (j : Int) < (j : Int) by omega)
      by_cases hpn : j < l.length
      · obtain ⟨ad, hA, e0, e1, e2⟩ := at_T42 HR.out (j : Int) (by omega) (by omega)
        rw [Int.toNat_natCast] at e0 e1 e2
        subst hA
        obtain ⟨k1, k2, k3, hx0, hx1, hx2⟩ : ∃ k1 k2 k3, (rd_T42 l (j : Int)).f0 = k1 ∧ (rd_T42 l (j : Int)).f1 = k2 ∧ (rd_T42 l (j : Int)).f2 = k3 := ⟨_, _, _, rfl, rfl, rfl⟩
        rw [hx0] at e0
        rw [hx1] at e1
        rw [hx2] at e2
        have hl0 := World.block_lt_of_cell? w _ e0
        have hl1 := World.block_lt_of_cell? w _ e1
        have hl2 := World.block_lt_of_cell? w _ e2
        have E0 := Aside0.mk e0
        have E1 := Aside0.mk e1
        have E2 := Aside0.mk e2
        have p1 : (j : Int) < (l.length : Int) := by omega
        have p2 : (0 : Int) ≤ (j : Int) := by omega
        have p3 := decide_eq_true p1
        have HX0 := Aside0.mk hx0
        have HX1 := Aside0.mk hx1
        have HPN := Aside0.mk hpn
        clear e0 e1 e2 hx0 hx1 hx2 hpn
        go_upto_region 8 with (fail)
        go_region_held3 (fun w' => w'.cell? (ad.add (j * 3)) = some (.int .i64 k1) ∧ w'.cell? ⟨(ad.add (j * 3)).block, (ad.add (j * 3)).off + 1, none⟩ = some (.string k2) ∧ w'.cell? ⟨(ad.add (j * 3)).block, (ad.add (j * 3)).off + 2, none⟩ = some (.string k3) ∧ w'.cell? ⟨w.heap.size, 0, none⟩ = some (.int .i64 kind) ∧ w'.cell? ⟨w.heap.size, 1, none⟩ = some (.string s) ∧ w'.cell? ⟨w.heap.size, 2, none⟩ = some (.string hh)) (first | exact ⟨(HB1.out.cell hl0).trans E0.out, (HB1.out.cell (p := ⟨(ad.add (j * 3)).block, (ad.add (j * 3)).off + 1, none⟩) hl1).trans E1.out, (HB1.out.cell (p := ⟨(ad.add (j * 3)).block, (ad.add (j * 3)).off + 2, none⟩) hl2).trans E2.out, M.rec_cell HC1.out 0 _ rfl, M.rec_cell HC1.out 1 _ rfl, M.rec_cell HC1.out 2 _ rfl⟩ | exact ⟨(HB.out.cell hl0).trans E0.out, (HB.out.cell (p := ⟨(ad.add (j * 3)).block, (ad.add (j * 3)).off + 1, none⟩) hl1).trans E1.out, (HB.out.cell (p := ⟨(ad.add (j * 3)).block, (ad.add (j * 3)).off + 2, none⟩) hl2).trans E2.out, M.rec_cell HC.out 0 _ rfl, M.rec_cell HC.out 1 _ rfl, M.rec_cell HC.out 2 _ rfl⟩ | exact (HB1.out.cell hl0).trans E0.out | exact (HB1.out.cell (p := ⟨(ad.add (j * 3)).block, (ad.add (j * 3)).off + 1, none⟩) hl1).trans E1.out | exact (HB1.out.cell (p := ⟨(ad.add (j * 3)).block, (ad.add (j * 3)).off + 2, none⟩) hl2).trans E2.out | exact M.rec_cell HC1.out 0 _ rfl | exact M.rec_cell HC1.out 1 _ rfl | exact M.rec_cell HC1.out 2 _ rfl | exact (HB.out.cell hl0).trans E0.out | exact (HB.out.cell (p := ⟨(ad.add (j * 3)).block, (ad.add (j * 3)).off + 1, none⟩) hl1).trans E1.out | exact (HB.out.cell (p := ⟨(ad.add (j * 3)).block, (ad.add (j * 3)).off + 2, none⟩) hl2).trans E2.out | exact M.rec_cell HC.out 0 _ rfl | exact M.rec_cell HC.out 1 _ rfl | exact M.rec_cell HC.out 2 _ rfl | go_keep) (((go_at_call 18; (with_reducible refine (refs_bsf.cmp_ k1 k2 k3 kind s hh _).mono ?_); rintro e w1 ⟨rfl, hb⟩; have HB1 : Aside0 (Below w.heap.size w w1) := ⟨below_step (by first | exact HB.out | exact below_drew HB.out | exact pw_below_drewN HB.out _) hb⟩; have HC1 := Aside0.mk (M.rec_below (by first | exact HC.out | exact M.rec_drew HC.out | exact M.rec_drewN HC.out _) hb); clear hb)))
        all_goals
          go_wp2
          exact bodyPost_ret (v := .tuple #[.int .i64 (j : Int), .bool (M.rcmp k1 k2 kind s == 0)]) (by simp [results, Try.results38, go_sem]) rfl ⟨by
            rw [HX0.out, HX1.out]
            congr 3
            by_cases hq : M.rcmp k1 k2 kind s = 0
            · rw [decide_eq_true ⟨HPN.out, hq⟩, hq]; rfl
            · rw [decide_eq_false (fun z => hq z.2), beq_eq_false_iff_ne.2 hq], HB1.out⟩
      · obtain rfl : j = l.length := by omega
        have p3 := decide_eq_false (show ¬ (l.length : Int) < (l.length : Int) by omega)
        have HPN := Aside0.mk hpn
        clear hpn
        go_upto_region 8 with (fail)
        go_quiet (fail)
        all_goals
          go_wp2
          exact bodyPost_ret (v := .tuple #[.int .i64 (l.length : Int), .bool false]) (by simp [results, Try.results38, go_sem]) rfl ⟨by rw [decide_eq_false (fun z => HPN.out z.1)], by first | exact HB.out | exact below_drew HB.out | exact pw_below_drewN HB.out _⟩

/-! ### refs_find: function 26 -/
-- wants slices.BinarySearchFunc (api_Ref.walk) and pleach/refs.Compare (refs_Compare.calls)
def refs_find.p (l : List S42) (kind : Int) (s : ByteArray) : Nat := (l.takeWhile (fun x => decide (M.rless x.f0 x.f1 kind s))).length
def refs_find.met (l : List S42) (kind : Int) (s : ByteArray) (p : Nat) : Bool := decide (p < l.length ∧ M.rcmp (rd_T42 l p).f0 (rd_T42 l p).f1 kind s = 0)
def refs_find.f (l0 : List S42) (a1 : Int) (a2 : ByteArray) : Option (Int × Bool) := if l0.length ≤ 1000000000 ∧ ∀ x ∈ l0.drop (refs_find.p l0 a1 a2), ¬ M.rless x.f0 x.f1 a1 a2 then some ((refs_find.p l0 a1 a2 : Int), refs_find.met l0 a1 a2 (refs_find.p l0 a1 a2)) else none
theorem refs_find.parts (l : List S42) (kind : Int) (s : ByteArray) (h : ∀ x ∈ l.drop (refs_find.p l kind s), ¬ M.rless x.f0 x.f1 kind s) : refs_bsf.parts l kind s (refs_find.p l kind s) := by
  have hs : ∀ i : Nat, i < l.length → l[i]? = some (rd_T42 l (i : Int)) := by
    intro i hi
    have : rd_T42 l (i : Int) = l[i] := by unfold rd_T42; simp [hi]
    rw [this, List.getElem?_eq_getElem hi]
  have hle : refs_find.p l kind s ≤ l.length := by unfold refs_find.p; exact (List.takeWhile_sublist _).length_le
  refine ⟨hle, fun i hi => ?_, fun i hi hil hn => ?_⟩
  · unfold refs_bsf.less
    rw [M.rcmp_neg]
    have ht : l.takeWhile (fun x => decide (M.rless x.f0 x.f1 kind s)) = l.take (refs_find.p l kind s) := by
      unfold refs_find.p
      exact (List.prefix_iff_eq_take.1 (List.takeWhile_prefix _))
    have hm : rd_T42 l (i : Int) ∈ l.takeWhile (fun x => decide (M.rless x.f0 x.f1 kind s)) := by
      rw [ht]
      refine List.mem_of_getElem? (i := i) ?_
      rw [List.getElem?_take_of_lt hi]
      exact hs i (by omega)
    exact of_decide_eq_true (List.all_eq_true.1 (List.all_takeWhile (p := fun x : S42 => decide (M.rless x.f0 x.f1 kind s))) _ hm)
  · unfold refs_bsf.less at hn
    rw [M.rcmp_neg] at hn
    refine h _ ?_ hn
    refine List.mem_of_getElem? (i := i - refs_find.p l kind s) ?_
    rw [List.getElem?_drop, show refs_find.p l kind s + (i - refs_find.p l kind s) = i by omega]
    exact hs i hil
set_option maxHeartbeats 8000000 in
set_option maxRecDepth 100000 in
theorem refs_find.calls (A0 : Option Addr) (c0 : Nat) (l0 : List S42) (a1 : Int) (a2 : ByteArray) (r1 : Int) (r2 : Bool) (w : World) (hr0 : Kd.C k42 w A0 l0.length l0) (hc0 : l0.length ≤ c0) (h : refs_find.f l0 a1 a2 = some (r1, r2)) :
    Calls Try.prog 26 #[.slice A0 l0.length c0, .int .i64 a1, .string a2] w fun e w' => e = .returned (.tuple #[.int .i64 r1, .bool r2]) ∧ Below w.heap.size w w' := by
  unfold refs_find.f at h
  split at h
  case isFalse => cases h
  case isTrue hh =>
    obtain ⟨g1, g2⟩ := hh
    obtain ⟨rfl, rfl⟩ := Prod.mk.inj (Option.some.inj h)
    clear h
    have HW := Aside0.mk (fun w0 (hr : Kd.C k42 w0 A0 l0.length l0) => refs_bsf.walk A0 c0 l0 a1 a2 ⟨#[]⟩ (refs_find.p l0 a1 a2) w0 hr g1 (refs_find.parts l0 a1 a2 g2))
    have HR := Aside0.mk hr0
    have HM := Aside0.mk (show refs_find.met l0 a1 a2 (refs_find.p l0 a1 a2) = decide ((refs_find.p l0 a1 a2 : Nat) < l0.length ∧ M.rcmp (rd_T42 l0 (refs_find.p l0 a1 a2 : Nat)).f0 (rd_T42 l0 (refs_find.p l0 a1 a2 : Nat)).f1 a1 a2 = 0) from rfl)
    clear g1 g2 hr0
    generalize refs_find.met l0 a1 a2 (refs_find.p l0 a1 a2) = q at HM ⊢
    generalize refs_find.p l0 a1 a2 = n at HW HM ⊢
    go_enter Try.func26, Try.ntmps26
    go_wp2_with (first | (go_at_call 38; (with_reducible refine (HW.out _ HR.out).mono ?_); rintro e w1 ⟨rfl, hb⟩; rw [← HM.out]; have HB1 := Aside0.mk hb; clear hb))
    exact bodyPost_ret (v := .tuple #[.int .i64 (n : Int), .bool q]) (by simp [results, Try.results26, go_sem]) rfl ⟨rfl, HB1.out⟩

/-! ### api_Ref_27: function 27 -/
theorem api_Ref_27.info : (Try.prog.info? 42).map (fun i => (i.zero, i.size, i.bytes)) = some (some (.agg #[(.int .i64 0), (.string ⟨#[]⟩), (.string ⟨#[]⟩)]), 3, 40) := by kernel_rfl
def api_Ref_27.f (l0 : List S42) : Option (List S42) := if l0.length * 40 ≤ 140737488355328 then some l0 else none
set_option maxHeartbeats 4000000 in
set_option maxRecDepth 100000 in
theorem api_Ref_27.calls (A0 : Option Addr) (c0 : Nat) (l0 : List S42) (r : List S42) (w : World) (hr0 : Kd.C k42 w A0 l0.length l0) (hc0 : l0.length ≤ c0) (h : api_Ref_27.f l0 = some r) :
    Calls Try.prog 27 #[.slice A0 l0.length c0] w fun e w' => ∃ v0_ : Value, e = .returned (v0_) ∧ Kd.R k42 42 w' w.heap.size (fun _ => True) v0_ r ∧ Below w.heap.size w w' := by
  unfold api_Ref_27.f at h
  split at h
  case isFalse => cases h
  case isTrue hh =>
  obtain rfl := Option.some.inj h
  clear h
  rcases A0 with _ | ad
  · have h0 : l0 = [] := by
      rcases Nat.eq_zero_or_pos l0.length with h | h
      · exact List.eq_nil_of_length_eq_zero h
      · obtain ⟨ad, h', _⟩ := hr0.2.2 h
        cases h'
    subst h0
    clear hr0
    have hN : ∀ w0 : World, (binOp .eql 22 (.slice none 0 c0) (.slice none 0 0)).run Try.prog w0 = .ok (.bool true) w0 := fun w0 => Lib.run_eql_slice_nil (P := Try.prog) w0 22 42 none 0 c0 0 0 Try.underlying22
    go_enter Try.func27, Try.ntmps27
    go_wp2
    go_ret
    exact ⟨_, rfl, ⟨fun k hk => trivial, [], own_nil _ _ _ _, ⟨rfl, fun j p hj => by cases hj⟩⟩, Below.refl _ _⟩
  · have hN : ∀ w0 : World, (binOp .eql 22 (.slice (some ad) l0.length c0) (.slice none 0 0)).run Try.prog w0 = .ok (.bool false) w0 := fun w0 => Lib.run_eql_slice_nil (P := Try.prog) w0 22 42 (some ad) l0.length c0 0 0 Try.underlying22
    have HR := Aside0.mk hr0
    have HB := Aside0.mk (Below.refl w.heap.size w)
    have HH := Aside0.mk hh
    clear hr0 hh hc0
    go_enter Try.func27, Try.ntmps27
    go_wp2_with (first
      | ((with_reducible refine gate_dst (N := 5) rfl ?_); refine Kd.R_lit k42 _ 42 ?hg (N := 5) ?hd (xs := ([] : List S42)) (inner := []) (ok := fun _ => True) (okp := fun _ => True) ?hr ?hp (fun _ hk => hk) trivial (Below.refl _ _) (Nat.le_refl _) (by simp) ?_; (case hd => rfl); (case hg => rfl); (case hr => first | (go_simp; done) | (go_simp; rfl)); (case hp => exact (Reps.none _ _)); intro v1 w1 hR1 hb1 hg1 hv1; have HR1 := Aside0.mk hR1; have HB1 := Aside0.mk hb1; clear hR1 hb1 hg1 hv1)
      | ((with_reducible refine gate_builtin (b := .append) (xs := #[.tmp 5, .tmp 6]) rfl ?_); at_builtin; refine Kd.R_append_rows k42 (Rr := fun x cs => cs = [.int .i64 x.f0, .string x.f1, .string x.f2]) (w0 := w) w.heap.size rfl (.tmp 5) (.tmp 6) 22 42 (.agg #[(.int .i64 0), (.string ⟨#[]⟩), (.string ⟨#[]⟩)]) 40 rfl Try.underlying22 api_Ref_27.info rfl (by decide) (by decide) v1 [] l0 (some ad) l0.length c0 (fun _ => True) (fun _ => False) rfl rfl HR1.out (ReadsRow.imp_ HR.out HB1.out (fun _ _ => k42_open)) (fun x cs e => by rw [e]; exact k42_mkM _ _ _ x) (fun _ h => h.elim) (fun _ _ => trivial) HB1.out HB1.out.size (by rw [List.length_nil, Nat.zero_add]; exact HH.out) ?_; intro v2 w2 hR2 hb2 hg2 hv2; have HR2 := Aside0.mk hR2; have HB2 := Aside0.mk hb2; clear hR2 hb2 hg2 hv2))
    go_ret
    exact ⟨_, rfl, HR2.out, HB2.out⟩

/-! ### api_Ref_28: function 28 -/
def api_Ref_28.f (l0 : List S42) (a1 a2 : Int) : Option (List S42) := none
theorem api_Ref_28.own {A0 : Option Addr} {c0 : Nat} {l0 r : List S42} {a1 a2 : Int} {P0 : Nat → Prop} {w0 w : World} (hB : Below w0.heap.size w0 w)
    (h0 : Kd.R k42 42 w w0.heap.size P0 (.slice A0 l0.length c0) l0) (h : api_Ref_28.f l0 a1 a2 = some r) :
    Calls Try.prog 28 #[.slice A0 l0.length c0, .int .i64 a1, .int .i64 a2] w fun e w' => ∃ v', e = .returned v' ∧ Kd.R k42 42 w' w0.heap.size (fun _ => True) v' r ∧ Below w0.heap.size w0 w' := by
  cases h

-- NOT PRINTED: function 39 (api_Ref_39)

-- NOT PRINTED: function 59 (api_Ref_59)

-- NOT PRINTED: function 46 (api_Ref_46)

-- NOT PRINTED: function 40 (api_Ref_40)

/-! ### api_Ref_29: function 29 -/
theorem api_Ref_29.info : (Try.prog.info? 42).map (fun i => (i.zero, i.size, i.bytes)) = some (some (.agg #[(.int .i64 0), (.string ⟨#[]⟩), (.string ⟨#[]⟩)]), 3, 40) := by kernel_rfl
def api_Ref_29.f (l0 : List S42) (a1 : Int) (l2 : List S42) : Option (List S42) := if a1 = (l0.length : Int) ∧ (l0.length + 1) * 40 ≤ 140737488355328 ∧ l2.length = 1 then some (l0.take a1.toNat ++ l2 ++ l0.drop a1.toNat) else none
theorem api_Ref_29.reads {A : Option Addr} {c B : Nat} {ok : Nat → Prop} {l : List S42} {w : World} (h : Kd.R k42 42 w B ok (.slice A l.length c) l) : l.length ≤ c ∧ ReadsRow (fun x cs => cs = [.int .i64 x.f0, .string x.f1, .string x.f2]) 3 w A l.length l := by
  obtain ⟨A', c', e, hc, hr⟩ := h.2.reads
  cases e
  exact ⟨hc, ReadsRow.imp_ hr (Below.refl _ _) (fun _ _ => k42_openM)⟩
set_option maxHeartbeats 4000000 in
set_option maxRecDepth 100000 in
theorem api_Ref_29.end_ {A0 A2 : Option Addr} {c0 c2 : Nat} {l0 l2 : List S42} {w0 w : World} (hB : Below w0.heap.size w0 w)
    (h0 : Kd.R k42 42 w w0.heap.size (fun _ => True) (.slice A0 l0.length c0) l0) (hc0 : l0.length ≤ c0) (h2 : ReadsRow (fun x cs => cs = [.int .i64 x.f0, .string x.f1, .string x.f2]) 3 w A2 1 l2) (hc2 : 1 ≤ c2) (hl : (l0.length + 1) * 40 ≤ 140737488355328) :
    Calls Try.prog 29 #[.slice A0 l0.length c0, .int .i64 l0.length, .slice A2 1 c2] w fun e w' => ∃ v', e = .returned v' ∧ Kd.R k42 42 w' w0.heap.size (fun _ => True) v' (l0 ++ l2) ∧ Below w0.heap.size w0 w' := by
  have HO := Aside0.mk h0
  have HR := Aside0.mk h2
  have HB := Aside0.mk hB
  have HH := Aside0.mk hl
  have hu := Try.underlying22
  have hz := Try.sizeOf42
  have p1 : ¬ (l0.length : Int) < 0 := by omega
  have p2 : l0.length ≤ 4000000000000 := by omega
  have p3 : (0 : Int) ≤ (l0.length : Int) := by omega
  have p4 : (l0.length : Int) ≤ (c0 : Int) := by omega
  clear h0 h2 hB hl
  go_enter Try.func29, Try.ntmps29
  go_wp2_with (first
    | ((with_reducible refine gate_builtin (b := .append) (xs := #[.tmp 23, .tmp 24]) rfl ?_); at_builtin; refine Kd.R_append_rows k42 (Rr := fun x cs => cs = [.int .i64 x.f0, .string x.f1, .string x.f2]) (w0 := w0) w0.heap.size rfl (.tmp 23) (.tmp 24) 22 42 (.agg #[(.int .i64 0), (.string ⟨#[]⟩), (.string ⟨#[]⟩)]) 40 rfl Try.underlying22 api_Ref_29.info rfl (by decide) (by decide) (.slice A0 l0.length c0) l0 l2 A2 1 c2 (fun _ => True) (fun _ => False) rfl rfl HO.out HR.out (fun x cs e => by rw [e]; exact k42_mkM _ _ _ x) (fun _ h => h.elim) (fun _ _ => trivial) HB.out HB.out.size HH.out ?_; intro v2 w2 hR2 hb2 hg2 hv2; have HR2 := Aside0.mk hR2; have HB2 := Aside0.mk hb2; clear hR2 hb2 hg2 hv2))
  all_goals
    go_ret
    exact ⟨_, rfl, HR2.out, HB2.out⟩
theorem api_Ref_29.own {A0 A2 : Option Addr} {c0 c2 : Nat} {l0 l2 r : List S42} {a1 : Int} {P0 P2 : Nat → Prop} {w0 w : World} (hB : Below w0.heap.size w0 w)
    (h0 : Kd.R k42 42 w w0.heap.size (fun k => P0 k ∧ some k ≠ (Value.slice A2 l2.length c2).ownBlock) (.slice A0 l0.length c0) l0) (h2 : Kd.R k42 42 w w0.heap.size P2 (.slice A2 l2.length c2) l2) (h : api_Ref_29.f l0 a1 l2 = some r) :
    Calls Try.prog 29 #[.slice A0 l0.length c0, .int .i64 a1, .slice A2 l2.length c2] w fun e w' => ∃ v', e = .returned v' ∧ Kd.R k42 42 w' w0.heap.size (fun _ => True) v' r ∧ Below w0.heap.size w0 w' := by
  unfold api_Ref_29.f at h
  split at h
  case isFalse => cases h
  case isTrue hh =>
    obtain ⟨rfl, g3, g4⟩ := hh
    obtain rfl := Option.some.inj h
    obtain ⟨hc0, _⟩ := api_Ref_29.reads h0
    obtain ⟨hc2, hr2⟩ := api_Ref_29.reads h2
    rw [g4] at hc2 hr2 ⊢
    rw [Int.toNat_natCast, List.take_of_length_le (Nat.le_refl _), List.drop_of_length_le (Nat.le_refl _), List.append_nil]
    exact api_Ref_29.end_ hB (Kd.R_mono h0 (fun _ _ => trivial)) hc0 hr2 hc2 g3

end Go.Proofs.Ytkaglpjdeinbhaa.ERefsChecks
