-- Written by this session's own program (wip/tools/ext.py) for this claim; Lean checks it.
import Derived.Test.YtkaglpjdeinbhaaERefsRecordsx0
import Derived.Test.YtkaglpjdeinbhaaERefsRecordsx5
namespace Go.Proofs.Ytkaglpjdeinbhaa.ERefsRecords
open Go.RowKit Go.Proofs.YtkaglpjdeinbhaaW.PrintWords Go.Proofs.YtkaglpjdeinbhaaW.PrintLast Go.Proofs.YtkaglpjdeinbhaaW.PrintMore
attribute [local go_sem] M.run_leq M.run_gtr M.run_geq max2_int min2_int max_two min_two max_three min_three max_four min_four   -- for this text's walks alone
set_option linter.unusedVariables false
set_option linter.unusedSimpArgs false

/-! ### api_Ref_38: function 38 -/
def refs_bsf.less (x : S42) (kind : Int) (s : ByteArray) : Prop := M.rcmp x.f0 x.f1 kind s < 0
/-- Up to p all stand ahead, from p on none. -/
def refs_bsf.parts (l : List S42) (kind : Int) (s : ByteArray) (p : Nat) : Prop := p ≤ l.length ∧ (∀ i, i < p → refs_bsf.less (rd_T42 l i) kind s) ∧ ∀ i : Nat, p ≤ i → i < l.length → ¬ refs_bsf.less (rd_T42 l i) kind s
theorem refs_bsf.cmp_ (a0_0 : Int) (a0_1 : ByteArray) (a0_2 : ByteArray) (a1_0 : Int) (a1_1 : ByteArray) (a1_2 : ByteArray) (w : World) :
    Calls Try.prog 18 #[.agg #[.int .i64 a0_0, .string a0_1, .string a0_2], .agg #[.int .i64 a1_0, .string a1_1, .string a1_2]] w fun e w' => e = .returned (.int .i64 (M.rcmp a0_0 a0_1 a1_0 a1_1)) ∧ Below w.heap.size w w' :=
  refs_Compare.calls a0_0 a0_1 a0_2 a1_0 a1_1 a1_2 _ w rfl
set_option maxHeartbeats 8000000 in
set_option maxRecDepth 100000 in
theorem refs_bsf.walk (A : Option Addr) (c : Nat) (l : List S42) (kind : Int) (s hh : ByteArray) (p : Nat) (w : World) (hr : Kd.C k42 w A l.length l) (hc : l.length ≤ 1000000000) (hp : refs_bsf.parts l kind s p) :
    Calls Try.prog 38 #[.slice A l.length c, .agg #[.int .i64 kind, .string s, .string hh], .func (.func 18) #[] #[]] w fun e w' => e = .returned (.tuple #[.int .i64 (p : Int), .bool (decide (p < l.length ∧ M.rcmp (rd_T42 l p).f0 (rd_T42 l p).f1 kind s = 0))]) ∧ Below w.heap.size w w' := by
  have hu := Try.underlying42
  have HR := Aside0.mk hr
  have HP := Aside0.mk hp
  have HB := Aside0.mk (below_alloc (Below.refl w.heap.size w) (.cells #[.int .i64 kind, .string s, .string hh] 42))
  have HC := Aside0.mk (M.rec_new w 42 [.int .i64 kind, .string s, .string hh])
  clear hr hp
  go_enter Try.func38, Try.ntmps38
  go_wp2
  go_loopg [9, 10] (l.length) (fun kq v9 v10 wr => ∃ (i j : Nat), v9 = .int .i64 (i : Int) ∧ v10 = .int .i64 (j : Int) ∧ Aside0 (kq = j - i) ∧ i ≤ p ∧ p ≤ j ∧ j ≤ l.length ∧ Aside0 (Below w.heap.size w wr) ∧ Aside0 (M.rec_ wr w.heap.size 42 [.int .i64 kind, .string s, .string hh]))
  case atStart => exact ⟨0, l.length, rfl, rfl, ⟨rfl⟩, Nat.zero_le _, HP.out.1, Nat.le_refl _, HB, HC⟩
  case round =>
    clear HB HC
    obtain ⟨i, j, rfl, rfl, hkq, hip, hpj, hjl, HB, HC⟩ := hrel
    by_cases hij : i < j
    · have hd := decide_eq_true (show (i : Int) < (j : Int) by omega)
      obtain ⟨m, hm⟩ : ∃ m, m = (i + j) / 2 := ⟨_, rfl⟩
      have hm1 : i ≤ m := by omega
      have hm2 : m < j := by omega
      obtain ⟨ad, hA, e0, e1, e2⟩ := at_T42 HR.out (m : Int) (by omega) (by omega)
      rw [Int.toNat_natCast] at e0 e1 e2
      subst hA
      obtain ⟨k1, k2, k3, hx0, hx1, hx2⟩ : ∃ k1 k2 k3, (rd_T42 l (m : Int)).f0 = k1 ∧ (rd_T42 l (m : Int)).f1 = k2 ∧ (rd_T42 l (m : Int)).f2 = k3 := ⟨_, _, _, rfl, rfl, rfl⟩
      rw [hx0] at e0
      rw [hx1] at e1
      rw [hx2] at e2
      have hl0 := World.block_lt_of_cell? w _ e0
      have hl1 := World.block_lt_of_cell? w _ e1
      have hl2 := World.block_lt_of_cell? w _ e2
      replace e0 := (HB.out.cell hl0).trans e0
      replace e1 := (HB.out.cell hl1).trans e1
      replace e2 := (HB.out.cell hl2).trans e2
      have g0 := M.rec_cell HC.out 0 _ rfl
      have g1 := M.rec_cell HC.out 1 _ rfl
      have g2 := M.rec_cell HC.out 2 _ rfl
      have p1 : (m : Int) < (l.length : Int) := by omega
      have p2 : (0 : Int) ≤ (m : Int) := by omega
      have hv : ((i : Int) + (j : Int)) / 2 = (m : Int) := by omega
      have HX0 := Aside0.mk hx0
      have HX1 := Aside0.mk hx1
      clear hl0 hl1 hl2 hx0 hx1 hx2 hm
      go_upto_region 5 with (fail)
      clear hv
      go_region_with (go_at_call 18; (with_reducible refine (refs_bsf.cmp_ k1 k2 k3 kind s hh _).mono ?_); rintro e w1 ⟨rfl, hb⟩; have HB1 : Aside0 (Below w.heap.size w w1) := ⟨below_step (below_drew HB.out) hb⟩; have HC1 := Aside0.mk (M.rec_below (by first | exact HC.out | exact M.rec_drew HC.out) hb); clear hb)
      all_goals
        have HN := Aside0.mk (show refs_bsf.less (rd_T42 l (m : Int)) kind s ↔ M.rcmp k1 k2 kind s < 0 by unfold refs_bsf.less; rw [HX0.out, HX1.out])
        clear e0 e1 e2 g0 g1 g2 HC HB
        generalize M.rcmp k1 k2 kind s = q at HN ⊢
        by_cases hq : q < 0
        · have hd2 := decide_eq_true hq
          have hm3 : m + 1 ≤ p := by
            rcases Nat.lt_or_ge m p with g | g
            · exact g
            · exact absurd (HN.out.2 hq) (HP.out.2.2 m g (by omega))
          go_wp2
          go_roundg (j - (m + 1))
          case measure => have := hkq.out; omega
          case rel => exact ⟨m + 1, j, by go_num, rfl, ⟨rfl⟩, hm3, hpj, hjl, HB1, HC1⟩
        · have hd2 := decide_eq_false hq
          have hm3 : p ≤ m := by
            rcases Nat.lt_or_ge m p with g | g
            · exact absurd (HN.out.1 (HP.out.2.1 m g)) hq
            · exact g
          go_wp2
          go_roundg (m - i)
          case measure => have := hkq.out; omega
          case rel => exact ⟨i, m, rfl, rfl, ⟨rfl⟩, hip, hm3, by omega, HB1, HC1⟩
    · obtain rfl : i = p := by omega
      obtain rfl : j = i := by omega
      have hd := decide_eq_false (show ¬ (j : Int) < (j : Int) by omega)
      by_cases hpn : j < l.length
      · obtain ⟨ad, hA, e0, e1, e2⟩ := at_T42 HR.out (j : Int) (by omega) (by omega)
        rw [Int.toNat_natCast] at e0 e1 e2
        subst hA
        obtain ⟨k1, k2, k3, hx0, hx1, hx2⟩ : ∃ k1 k2 k3, (rd_T42 l (j : Int)).f0 = k1 ∧ (rd_T42 l (j : Int)).f1 = k2 ∧ (rd_T42 l (j : Int)).f2 = k3 := ⟨_, _, _, rfl, rfl, rfl⟩
        rw [hx0] at e0
        rw [hx1] at e1
        rw [hx2] at e2
        have hl0 := World.block_lt_of_cell? w _ e0
        have hl1 := World.block_lt_of_cell? w _ e1
        have hl2 := World.block_lt_of_cell? w _ e2
        have E0 := Aside0.mk e0
        have E1 := Aside0.mk e1
        have E2 := Aside0.mk e2
        have p1 : (j : Int) < (l.length : Int) := by omega
        have p2 : (0 : Int) ≤ (j : Int) := by omega
        have p3 := decide_eq_true p1
        have HX0 := Aside0.mk hx0
        have HX1 := Aside0.mk hx1
        have HPN := Aside0.mk hpn
        clear e0 e1 e2 hx0 hx1 hx2 hpn
        go_upto_region 8 with (fail)
        go_region_held3 (fun w' => w'.cell? (ad.add (j * 3)) = some (.int .i64 k1) ∧ w'.cell? ⟨(ad.add (j * 3)).block, (ad.add (j * 3)).off + 1, none⟩ = some (.string k2) ∧ w'.cell? ⟨(ad.add (j * 3)).block, (ad.add (j * 3)).off + 2, none⟩ = some (.string k3) ∧ w'.cell? ⟨w.heap.size, 0, none⟩ = some (.int .i64 kind) ∧ w'.cell? ⟨w.heap.size, 1, none⟩ = some (.string s) ∧ w'.cell? ⟨w.heap.size, 2, none⟩ = some (.string hh)) (first | exact ⟨(HB1.out.cell hl0).trans E0.out, (HB1.out.cell (p := ⟨(ad.add (j * 3)).block, (ad.add (j * 3)).off + 1, none⟩) hl1).trans E1.out, (HB1.out.cell (p := ⟨(ad.add (j * 3)).block, (ad.add (j * 3)).off + 2, none⟩) hl2).trans E2.out, M.rec_cell HC1.out 0 _ rfl, M.rec_cell HC1.out 1 _ rfl, M.rec_cell HC1.out 2 _ rfl⟩ | exact ⟨(HB.out.cell hl0).trans E0.out, (HB.out.cell (p := ⟨(ad.add (j * 3)).block, (ad.add (j * 3)).off + 1, none⟩) hl1).trans E1.out, (HB.out.cell (p := ⟨(ad.add (j * 3)).block, (ad.add (j * 3)).off + 2, none⟩) hl2).trans E2.out, M.rec_cell HC.out 0 _ rfl, M.rec_cell HC.out 1 _ rfl, M.rec_cell HC.out 2 _ rfl⟩ | exact (HB1.out.cell hl0).trans E0.out | exact (HB1.out.cell (p := ⟨(ad.add (j * 3)).block, (ad.add (j * 3)).off + 1, none⟩) hl1).trans E1.out | exact (HB1.out.cell (p := ⟨(ad.add (j * 3)).block, (ad.add (j * 3)).off + 2, none⟩) hl2).trans E2.out | exact M.rec_cell HC1.out 0 _ rfl | exact M.rec_cell HC1.out 1 _ rfl | exact M.rec_cell HC1.out 2 _ rfl | exact (HB.out.cell hl0).trans E0.out | exact (HB.out.cell (p := ⟨(ad.add (j * 3)).block, (ad.add (j * 3)).off + 1, none⟩) hl1).trans E1.out | exact (HB.out.cell (p := ⟨(ad.add (j * 3)).block, (ad.add (j * 3)).off + 2, none⟩) hl2).trans E2.out | exact M.rec_cell HC.out 0 _ rfl | exact M.rec_cell HC.out 1 _ rfl | exact M.rec_cell HC.out 2 _ rfl | go_keep) (((go_at_call 18; (with_reducible refine (refs_bsf.cmp_ k1 k2 k3 kind s hh _).mono ?_); rintro e w1 ⟨rfl, hb⟩; have HB1 : Aside0 (Below w.heap.size w w1) := ⟨below_step (by first | exact HB.out | exact below_drew HB.out | exact pw_below_drewN HB.out _) hb⟩; have HC1 := Aside0.mk (M.rec_below (by first | exact HC.out | exact M.rec_drew HC.out | exact M.rec_drewN HC.out _) hb); clear hb)))
        all_goals
          go_wp2
          exact bodyPost_ret (v := .tuple #[.int .i64 (j : Int), .bool (M.rcmp k1 k2 kind s == 0)]) (by simp [results, Try.results38, go_sem]) rfl ⟨by
            rw [HX0.out, HX1.out]
            congr 3
            by_cases hq : M.rcmp k1 k2 kind s = 0
            · rw [decide_eq_true ⟨HPN.out, hq⟩, hq]; rfl
            · rw [decide_eq_false (fun z => hq z.2), beq_eq_false_iff_ne.2 hq], HB1.out⟩
      · obtain rfl : j = l.length := by omega
        have p3 := decide_eq_false (show ¬ (l.length : Int) < (l.length : Int) by omega)
        have HPN := Aside0.mk hpn
        clear hpn
        go_upto_region 8 with (fail)
        go_quiet (fail)
        all_goals
          go_wp2
          exact bodyPost_ret (v := .tuple #[.int .i64 (l.length : Int), .bool false]) (by simp [results, Try.results38, go_sem]) rfl ⟨by rw [decide_eq_false (fun z => HPN.out z.1)], by first | exact HB.out | exact below_drew HB.out | exact pw_below_drewN HB.out _⟩

/-! ### refs_find: function 26 -/
-- wants slices.BinarySearchFunc (api_Ref.walk) and pleach/refs.Compare (refs_Compare.calls)
def refs_find.p (l : List S42) (kind : Int) (s : ByteArray) : Nat := (l.takeWhile (fun x => decide (M.rless x.f0 x.f1 kind s))).length
def refs_find.met (l : List S42) (kind : Int) (s : ByteArray) (p : Nat) : Bool := decide (p < l.length ∧ M.rcmp (rd_T42 l p).f0 (rd_T42 l p).f1 kind s = 0)
def refs_find.f (l0 : List S42) (a1 : Int) (a2 : ByteArray) : Option (Int × Bool) := if l0.length ≤ 1000000000 ∧ ∀ x ∈ l0.drop (refs_find.p l0 a1 a2), ¬ M.rless x.f0 x.f1 a1 a2 then some ((refs_find.p l0 a1 a2 : Int), refs_find.met l0 a1 a2 (refs_find.p l0 a1 a2)) else none
theorem refs_find.parts (l : List S42) (kind : Int) (s : ByteArray) (h : ∀ x ∈ l.drop (refs_find.p l kind s), ¬ M.rless x.f0 x.f1 kind s) : refs_bsf.parts l kind s (refs_find.p l kind s) := by
  have hs : ∀ i : Nat, i < l.length → l[i]? = some (rd_T42 l (i : Int)) := by
    intro i hi
    have : rd_T42 l (i : Int) = l[i] := by unfold rd_T42; simp [hi]
    rw [this, List.getElem?_eq_getElem hi]
  have hle : refs_find.p l kind s ≤ l.length := by unfold refs_find.p; exact (List.takeWhile_sublist _).length_le
  refine ⟨hle, fun i hi => ?_, fun i hi hil hn => ?_⟩
  · unfold refs_bsf.less
    rw [M.rcmp_neg]
    have ht : l.takeWhile (fun x => decide (M.rless x.f0 x.f1 kind s)) = l.take (refs_find.p l kind s) := by
      unfold refs_find.p
      exact (List.prefix_iff_eq_take.1 (List.takeWhile_prefix _))
    have hm : rd_T42 l (i : Int) ∈ l.takeWhile (fun x => decide (M.rless x.f0 x.f1 kind s)) := by
      rw [ht]
      refine List.mem_of_getElem? (i := i) ?_
      rw [List.getElem?_take_of_lt hi]
      exact hs i (by omega)
    exact of_decide_eq_true (List.all_eq_true.1 (List.all_takeWhile (p := fun x : S42 => decide (M.rless x.f0 x.f1 kind s))) _ hm)
  · unfold refs_bsf.less at hn
    rw [M.rcmp_neg] at hn
    refine h _ ?_ hn
    refine List.mem_of_getElem? (i := i - refs_find.p l kind s) ?_
    rw [List.getElem?_drop, show refs_find.p l kind s + (i - refs_find.p l kind s) = i by omega]
    exact hs i hil
set_option maxHeartbeats 8000000 in
set_option maxRecDepth 100000 in
theorem refs_find.calls (A0 : Option Addr) (c0 : Nat) (l0 : List S42) (a1 : Int) (a2 : ByteArray) (r1 : Int) (r2 : Bool) (w : World) (hr0 : Kd.C k42 w A0 l0.length l0) (hc0 : l0.length ≤ c0) (h : refs_find.f l0 a1 a2 = some (r1, r2)) :
    Calls Try.prog 26 #[.slice A0 l0.length c0, .int .i64 a1, .string a2] w fun e w' => e = .returned (.tuple #[.int .i64 r1, .bool r2]) ∧ Below w.heap.size w w' := by
  unfold refs_find.f at h
  split at h
  case isFalse => cases h
  case isTrue hh =>
    obtain ⟨g1, g2⟩ := hh
    obtain ⟨rfl, rfl⟩ := Prod.mk.inj (Option.some.inj h)
    clear h
    have HW := Aside0.mk (fun w0 (hr : Kd.C k42 w0 A0 l0.length l0) => refs_bsf.walk A0 c0 l0 a1 a2 ⟨#[]⟩ (refs_find.p l0 a1 a2) w0 hr g1 (refs_find.parts l0 a1 a2 g2))
    have HR := Aside0.mk hr0
    have HM := Aside0.mk (show refs_find.met l0 a1 a2 (refs_find.p l0 a1 a2) = decide ((refs_find.p l0 a1 a2 : Nat) < l0.length ∧ M.rcmp (rd_T42 l0 (refs_find.p l0 a1 a2 : Nat)).f0 (rd_T42 l0 (refs_find.p l0 a1 a2 : Nat)).f1 a1 a2 = 0) from rfl)
    clear g1 g2 hr0
    generalize refs_find.met l0 a1 a2 (refs_find.p l0 a1 a2) = q at HM ⊢
    generalize refs_find.p l0 a1 a2 = n at HW HM ⊢
    go_enter Try.func26, Try.ntmps26
    go_wp2_with (first | (go_at_call 38; (with_reducible refine (HW.out _ HR.out).mono ?_); rintro e w1 ⟨rfl, hb⟩; rw [← HM.out]; have HB1 := Aside0.mk hb; clear hb))
    exact bodyPost_ret (v := .tuple #[.int .i64 (n : Int), .bool q]) (by simp [results, Try.results26, go_sem]) rfl ⟨rfl, HB1.out⟩

/-! ### api_Ref_27: function 27 -/
theorem api_Ref_27.info : (Try.prog.info? 42).map (fun i => (i.zero, i.size, i.bytes)) = some (some (.agg #[(.int .i64 0), (.string ⟨#[]⟩), (.string ⟨#[]⟩)]), 3, 40) := by kernel_rfl
def api_Ref_27.f (l0 : List S42) : Option (List S42) := if l0.length * 40 ≤ 140737488355328 then some l0 else none
set_option maxHeartbeats 4000000 in
set_option maxRecDepth 100000 in
theorem api_Ref_27.calls (A0 : Option Addr) (c0 : Nat) (l0 : List S42) (r : List S42) (w : World) (hr0 : Kd.C k42 w A0 l0.length l0) (hc0 : l0.length ≤ c0) (h : api_Ref_27.f l0 = some r) :
    Calls Try.prog 27 #[.slice A0 l0.length c0] w fun e w' => ∃ v0_ : Value, e = .returned (v0_) ∧ Kd.R k42 42 w' w.heap.size (fun _ => True) v0_ r ∧ Below w.heap.size w w' := by
  unfold api_Ref_27.f at h
  split at h
  case isFalse => cases h
  case isTrue hh =>
  obtain rfl := Option.some.inj h
  clear h
  rcases A0 with _ | ad
  · have h0 : l0 = [] := by
      rcases Nat.eq_zero_or_pos l0.length with h | h
      · exact List.eq_nil_of_length_eq_zero h
      · obtain ⟨ad, h', _⟩ := hr0.2.2 h
        cases h'
    subst h0
    clear hr0
    have hN : ∀ w0 : World, (binOp .eql 22 (.slice none 0 c0) (.slice none 0 0)).run Try.prog w0 = .ok (.bool true) w0 := fun w0 => Lib.run_eql_slice_nil (P := Try.prog) w0 22 42 none 0 c0 0 0 Try.underlying22
    go_enter Try.func27, Try.ntmps27
    go_wp2
    go_ret
    exact ⟨_, rfl, ⟨fun k hk => trivial, [], own_nil _ _ _ _, ⟨rfl, fun j p hj => by cases hj⟩⟩, Below.refl _ _⟩
  · have hN : ∀ w0 : World, (binOp .eql 22 (.slice (some ad) l0.length c0) (.slice none 0 0)).run Try.prog w0 = .ok (.bool false) w0 := fun w0 => Lib.run_eql_slice_nil (P := Try.prog) w0 22 42 (some ad) l0.length c0 0 0 Try.underlying22
    have HR := Aside0.mk hr0
    have HB := Aside0.mk (Below.refl w.heap.size w)
    have HH := Aside0.mk hh
    clear hr0 hh hc0
    go_enter Try.func27, Try.ntmps27
    go_wp2_with (first
      | ((with_reducible refine gate_dst (N := 5) rfl ?_); refine Kd.R_lit k42 _ 42 ?hg (N := 5) ?hd (xs := ([] : List S42)) (inner := []) (ok := fun _ => True) (okp := fun _ => True) ?hr ?hp (fun _ hk => hk) trivial (Below.refl _ _) (Nat.le_refl _) (by simp) ?_; (case hd => rfl); (case hg => rfl); (case hr => first | (go_simp; done) | (go_simp; rfl)); (case hp => exact (Reps.none _ _)); intro v1 w1 hR1 hb1 hg1 hv1; have HR1 := Aside0.mk hR1; have HB1 := Aside0.mk hb1; clear hR1 hb1 hg1 hv1)
      | ((with_reducible refine gate_builtin (b := .append) (xs := #[.tmp 5, .tmp 6]) rfl ?_); at_builtin; refine Kd.R_append_rows k42 (Rr := fun x cs => cs = [.int .i64 x.f0, .string x.f1, .string x.f2]) (w0 := w) w.heap.size rfl (.tmp 5) (.tmp 6) 22 42 (.agg #[(.int .i64 0), (.string ⟨#[]⟩), (.string ⟨#[]⟩)]) 40 rfl Try.underlying22 api_Ref_27.info rfl (by decide) (by decide) v1 [] l0 (some ad) l0.length c0 (fun _ => True) (fun _ => False) rfl rfl HR1.out (ReadsRow.imp_ HR.out HB1.out (fun _ _ => k42_open)) (fun x cs e => by rw [e]; exact k42_mkM _ _ _ x) (fun _ h => h.elim) (fun _ _ => trivial) HB1.out HB1.out.size (by rw [List.length_nil, Nat.zero_add]; exact HH.out) ?_; intro v2 w2 hR2 hb2 hg2 hv2; have HR2 := Aside0.mk hR2; have HB2 := Aside0.mk hb2; clear hR2 hb2 hg2 hv2))
    go_ret
    exact ⟨_, rfl, HR2.out, HB2.out⟩

/-! ### api_Ref_28: function 28 -/
def api_Ref_28.f (l0 : List S42) (a1 a2 : Int) : Option (List S42) := if 0 ≤ a1 ∧ a1 < (l0.length : Int) ∧ a2 = a1 + 1 then some (l0.take a1.toNat ++ l0.drop (a1.toNat + 1)) else none
theorem api_Ref_28.info : (Try.prog.info? 42).map (fun i => (i.zero, i.size, i.bytes)) = some (some (.agg #[(.int .i64 0), (.string ⟨#[]⟩), (.string ⟨#[]⟩)]), 3, 40) := by kernel_rfl
set_option maxHeartbeats 4000000 in
set_option maxRecDepth 100000 in
theorem api_Ref_28.walk {g i n cap : Nat} {cur : List Value} {w : World} (hG : M.rec_ w g 42 cur) (hi : i < n) (hnc : n ≤ cap) (hc63 : cap ≤ 9223372036854775807) (hcur : cur.length = cap * 3) (h1 : ∀ v ∈ cur.take (n * 3), v.oneCell' = true) :
    Calls Try.prog 28 #[.slice (some ⟨g, 0, none⟩) n cap, .int .i64 i, .int .i64 ((i : Int) + 1)] w fun e w' =>
      e = .returned (.slice (some ⟨g, 0, none⟩) (n - 1) cap) ∧ w' = (w.drew.setCells g (i * 3) ((cur.drop ((i + 1) * 3)).take ((n - (i + 1)) * 3))).setCells g ((n - 1) * 3) [.int .i64 0, .string ⟨#[]⟩, .string ⟨#[]⟩] := by
  have hu := Try.underlying22
  have hz := Try.sizeOf42
  have mixed : Try.prog.follows Departure.mixedOrders = true := by kernel_rfl
  obtain ⟨i0, hi0, hz0, hzs, hzb⟩ := info_parts api_Ref_28.info
  obtain ⟨seg, hseg⟩ : ∃ seg, seg = (cur.drop ((i + 1) * 3)).take ((n - (i + 1)) * 3) := ⟨_, rfl⟩
  have hsl : seg.length = (n - (i + 1)) * 3 := by rw [hseg, List.length_take, List.length_drop, hcur]; omega
  have s2 : Aside0 (∀ v ∈ seg, v.oneCell' = true) := by
    refine ⟨fun v hv => h1 v ?_⟩
    rw [hseg, show (n - (i + 1)) * 3 = n * 3 - (i + 1) * 3 by omega, ← List.drop_take] at hv
    exact List.mem_of_mem_drop hv
  have hD : M.rec_ w.drew g 42 cur := hG
  obtain ⟨A, hA, hsrc⟩ : ∃ A : Addr, (if cap = i + 1 then (some (⟨g, 0, none⟩ : Addr)) else some ⟨g, (i + 1) * 3, none⟩) = some A ∧ Aside0 (∀ t u, seg[t]? = some u → w.drew.cell? (A.add t) = some u) := by
    by_cases h : cap = i + 1
    · refine ⟨⟨g, 0, none⟩, by simp [h], ⟨fun t u hu => ?_⟩⟩
      have h0 : seg.length = 0 := by rw [hsl]; omega
      rw [List.length_eq_zero_iff.1 h0] at hu
      simp at hu
    · refine ⟨⟨g, (i + 1) * 3, none⟩, by simp [h], ⟨fun t u hu => ?_⟩⟩
      rw [M.addr_add]
      refine M.rec_cell hD ((i + 1) * 3 + t) u ?_
      rw [hseg, List.getElem?_take] at hu
      split at hu
      · rwa [List.getElem?_drop] at hu
      · cases hu
  have s1 : Aside0 (seg.length = (n - (i + 1)) * 3) := ⟨hsl⟩
  have s3 : Aside0 (∀ t, t < seg.length → (w.drew.cell? ⟨g, 0 + i * 3 + t, none⟩).isSome = true ∧ w.drew.frozen? ⟨g, 0 + i * 3 + t, none⟩ = false) := by
    refine ⟨fun t ht => ⟨?_, M.rec_free hD _⟩⟩
    rw [hsl] at ht
    rw [M.rec_cell hD (0 + i * 3 + t) (cur[0 + i * 3 + t]'(by omega)) (List.getElem?_eq_getElem _)]; rfl
  obtain ⟨W1, hW1⟩ : ∃ W1, W1 = w.drew.setCells g (i * 3) seg := ⟨_, rfl⟩
  have hG1 : M.rec_ W1 g 42 (cur.take (i * 3) ++ seg ++ cur.drop (i * 3 + seg.length)) := by rw [hW1]; exact M.rec_setCells_go seg _ g _ cur hD (by rw [hsl, hcur]; omega)
  have hcl : ∀ ty m k dc, m = n - 1 → k = 1 → (Builtin.clear_ #[22] ty #[.slice (some ⟨g, m * 3, none⟩) k dc]).run Try.prog W1 = .ok (.tuple #[]) (W1.setCells g ((n - 1) * 3) [.int .i64 0, .string ⟨#[]⟩, .string ⟨#[]⟩]) := by
    rintro ty m k dc rfl rfl
    exact M.clear_rec _ 42 ty _ hG1 hu Try.zeroValue42 (by kernel_rfl) (fun v hv => by
      rcases List.mem_cons.1 hv with rfl | hv
      · rfl
      rcases List.mem_cons.1 hv with rfl | hv
      · rfl
      rcases List.mem_cons.1 hv with rfl | hv
      · rfl
      · cases hv) (by decide) (by simp only [List.length_append, List.length_take, List.length_drop, hsl, hcur, List.length_cons, List.length_nil]; omega)
  have hcl2 := fun ty dc => hcl ty (i + (n - (i + 1))) (n - (i + (n - (i + 1)))) dc (by omega) (by omega)
  have hW : Aside0 (W1 = w.drew.setCells g (0 + i * 3) seg) := ⟨by rw [hW1, Nat.zero_add]⟩
  rw [← hseg, ← hW1]
  clear hW1 hG1 hcl hD hseg hsl h1 hcur hG hz0 hzb
  have hz2 : ¬ ((i : Int) = (i : Int) + 1) := by omega
  have hb1 : (0 : Int) ≤ (i : Int) + 1 := by omega
  have hb2 : (i : Int) + 1 ≤ (n : Int) := by omega
  have hb3 : (i : Int) ≤ (i : Int) + 1 := by omega
  have hb4 : (n : Int) ≤ (cap : Int) := by omega
  have htn : ((i : Int) + 1).toNat = i + 1 := by omega
  have hic : i ≤ cap := by omega
  have hjc : i + 1 ≤ cap := by omega
  have hroom : i + (n - (i + 1)) ≤ cap := by omega
  have hlast : i + (n - (i + 1)) ≤ n := by omega
  have hne : ¬ (cap = i + (n - (i + 1))) := by omega
  go_enter Try.func28, Try.ntmps28
  go_wp2_with fail
  go_region_law_o (refine step_append_room rfl (.tmp 22) (.tmp 25) 22 rfl 42 i0 3 hu hi0 hzs g 0 i cap (by simp [Act.eval, Act.put]) A (n - (i + 1)) (cap - (i + 1)) seg (by simp [Act.eval, Act.put]) s1.out hsrc.out s2.out (by omega) s3.out ?_; rw [← hW.out])
  go_wp2
  go_ret
  exact ⟨congrArg (fun z => Ending.returned (.slice (some ⟨g, 0, none⟩) z cap)) (show i + (n - (i + 1)) = n - 1 by omega), rfl⟩
def api_Ref_28.cs (x : S42) : List Value := [.int .i64 x.f0, .string x.f1, .string x.f2]
theorem api_Ref_28.cs3 (x : S42) : (api_Ref_28.cs x).length = 3 := rfl
theorem api_Ref_28.one (xs : List S42) : ∀ v ∈ xs.flatMap api_Ref_28.cs, v.oneCell' = true := by
  intro v hv
  obtain ⟨x, _, hx⟩ := List.mem_flatMap.1 hv
  unfold api_Ref_28.cs at hx
  rcases List.mem_cons.1 hx with rfl | hx
  · rfl
  rcases List.mem_cons.1 hx with rfl | hx
  · rfl
  rcases List.mem_cons.1 hx with rfl | hx
  · rfl
  · cases hx
theorem api_Ref_28.own {A0 : Option Addr} {c0 : Nat} {l0 r : List S42} {a1 a2 : Int} {P0 : Nat → Prop} {w0 w : World} (hB : Below w0.heap.size w0 w)
    (h0 : Kd.R k42 42 w w0.heap.size P0 (.slice A0 l0.length c0) l0) (h : api_Ref_28.f l0 a1 a2 = some r) :
    Calls Try.prog 28 #[.slice A0 l0.length c0, .int .i64 a1, .int .i64 a2] w fun e w' => ∃ v', e = .returned v' ∧ Kd.R k42 42 w' w0.heap.size (fun _ => True) v' r ∧ Below w0.heap.size w0 w' := by
  unfold api_Ref_28.f at h
  split at h
  case isFalse => cases h
  case isTrue hh =>
    obtain ⟨g1, g2, rfl⟩ := hh
    obtain rfl := Option.some.inj h
    clear h
    obtain ⟨i, rfl⟩ := Int.eq_ofNat_of_zero_le g1
    rw [Int.toNat_natCast]
    have hi : i < l0.length := by omega
    obtain ⟨_, inner, hown, hr⟩ := h0
    have hin := M.reps_flat api_Ref_28.cs (fun x cs h => k42_openM h) l0 inner hr
    rcases hown.2 with ⟨_, h0⟩ | ⟨g, cap, cur, e, hg, hgc, hn, hm, hs, ht⟩
    · omega
    cases e
    have hG : M.rec_ w g 42 cur.toList := by unfold M.rec_; rw [hgc]
    have hcur : cur.toList.length = c0 * 3 := by rw [Array.length_toList]; exact hs
    replace ht : cur.toList.take (l0.length * 3) = l0.flatMap api_Ref_28.cs := ht.trans hin
    generalize cur.toList = cu at hG hcur ht
    refine (api_Ref_28.walk hG hi hn (by unfold maxLen at hm; omega) hcur (by rw [ht]; exact api_Ref_28.one l0)).mono ?_
    rintro e w' ⟨rfl, rfl⟩
    have hsl : ((cu.drop ((i + 1) * 3)).take ((l0.length - (i + 1)) * 3)).length = (l0.length - (i + 1)) * 3 := by rw [List.length_take, List.length_drop, hcur]; omega
    have r1 := M.rec_setCells_go ((cu.drop ((i + 1) * 3)).take ((l0.length - (i + 1)) * 3)) w.drew g (i * 3) cu (M.rec_drew hG) (by rw [hsl, hcur]; omega)
    have hd := M.del_list 3 cu (l0.flatMap api_Ref_28.cs) ht hi (by rw [hcur]; omega)
    have l1 : (cu.take (i * 3) ++ (cu.drop ((i + 1) * 3)).take ((l0.length - (i + 1)) * 3) ++ cu.drop (i * 3 + ((cu.drop ((i + 1) * 3)).take ((l0.length - (i + 1)) * 3)).length)).length = c0 * 3 := by
      rw [List.length_append, List.length_append, List.length_take, List.length_drop, hsl, hcur]; omega
    generalize (cu.take (i * 3) ++ (cu.drop ((i + 1) * 3)).take ((l0.length - (i + 1)) * 3) ++ cu.drop (i * 3 + ((cu.drop ((i + 1) * 3)).take ((l0.length - (i + 1)) * 3)).length)) = c1 at r1 hd l1
    have hfit : (l0.length - 1) * 3 + 3 ≤ c0 * 3 := by omega
    have r2 := M.rec_setCells_go [.int .i64 0, .string ⟨#[]⟩, .string ⟨#[]⟩] _ g ((l0.length - 1) * 3) c1 r1 (by rw [l1]; exact hfit)
    have hlen : (l0.take i ++ l0.drop (i + 1)).length = l0.length - 1 := by rw [List.length_append, List.length_take, List.length_drop]; omega
    have hfl : (l0.take i ++ l0.drop (i + 1)).flatMap api_Ref_28.cs = (l0.flatMap api_Ref_28.cs).take (i * 3) ++ (l0.flatMap api_Ref_28.cs).drop ((i + 1) * 3) := by
      rw [List.flatMap_append, M.flat_take _ api_Ref_28.cs3, M.flat_drop _ api_Ref_28.cs3]
    refine ⟨_, rfl, ⟨fun _ _ => trivial, (l0.take i ++ l0.drop (i + 1)).flatMap api_Ref_28.cs, ⟨M.flat_len _ api_Ref_28.cs3 _, .inr ⟨g, c0, _, by rw [hlen], hg, r2, by rw [hlen]; omega, hm, ?_, ?_⟩⟩, M.flat_reps _ api_Ref_28.cs3 (fun x => k42_mkM _ _ _ x) _⟩, M.below_setCells (M.below_setCells (below_drew1 hB) _ g _ hg) _ g _ hg⟩
    · show _ = c0 * 3
      simp only [List.size_toArray, List.length_append, List.length_take, List.length_drop, l1, List.length_cons, List.length_nil]; omega
    · rw [hlen, hfl, ← hd]
      show List.take ((l0.length - 1) * 3) (c1.take ((l0.length - 1) * 3) ++ _ ++ _) = _
      rw [List.append_assoc]
      exact List.take_left' (by rw [List.length_take, l1]; omega)

-- NOT PRINTED: function 39 (api_Ref_39)

-- NOT PRINTED: function 59 (api_Ref_59)

-- NOT PRINTED: function 46 (api_Ref_46)

-- NOT PRINTED: function 40 (api_Ref_40)

/-! ### api_Ref_29: function 29 -/
theorem api_Ref_29.info : (Try.prog.info? 42).map (fun i => (i.zero, i.size, i.bytes)) = some (some (.agg #[(.int .i64 0), (.string ⟨#[]⟩), (.string ⟨#[]⟩)]), 3, 40) := by kernel_rfl
def api_Ref_29.f (l0 : List S42) (a1 : Int) (l2 : List S42) : Option (List S42) := if 0 ≤ a1 ∧ a1 ≤ (l0.length : Int) ∧ (l0.length + 1) * 40 ≤ 140737488355328 ∧ l2.length = 1 then some (l0.take a1.toNat ++ l2 ++ l0.drop a1.toNat) else none
theorem api_Ref_29.reads {A : Option Addr} {c B : Nat} {ok : Nat → Prop} {l : List S42} {w : World} (h : Kd.R k42 42 w B ok (.slice A l.length c) l) : l.length ≤ c ∧ ReadsRow (fun x cs => cs = [.int .i64 x.f0, .string x.f1, .string x.f2]) 3 w A l.length l := by
  obtain ⟨A', c', e, hc, hr⟩ := h.2.reads
  cases e
  exact ⟨hc, ReadsRow.imp_ hr (Below.refl _ _) (fun _ _ => k42_openM)⟩
set_option maxHeartbeats 4000000 in
set_option maxRecDepth 100000 in
theorem api_Ref_29.end_ {A0 A2 : Option Addr} {c0 c2 : Nat} {l0 l2 : List S42} {w0 w : World} (hB : Below w0.heap.size w0 w)
    (h0 : Kd.R k42 42 w w0.heap.size (fun _ => True) (.slice A0 l0.length c0) l0) (hc0 : l0.length ≤ c0) (h2 : ReadsRow (fun x cs => cs = [.int .i64 x.f0, .string x.f1, .string x.f2]) 3 w A2 1 l2) (hc2 : 1 ≤ c2) (hl : (l0.length + 1) * 40 ≤ 140737488355328) :
    Calls Try.prog 29 #[.slice A0 l0.length c0, .int .i64 l0.length, .slice A2 1 c2] w fun e w' => ∃ v', e = .returned v' ∧ Kd.R k42 42 w' w0.heap.size (fun _ => True) v' (l0 ++ l2) ∧ Below w0.heap.size w0 w' := by
  have HO := Aside0.mk h0
  have HR := Aside0.mk h2
  have HB := Aside0.mk hB
  have HH := Aside0.mk hl
  have hu := Try.underlying22
  have hz := Try.sizeOf42
  have p1 : ¬ (l0.length : Int) < 0 := by omega
  have p2 : l0.length ≤ 4000000000000 := by omega
  have p3 : (0 : Int) ≤ (l0.length : Int) := by omega
  have p4 : (l0.length : Int) ≤ (c0 : Int) := by omega
  clear h0 h2 hB hl
  go_enter Try.func29, Try.ntmps29
  go_wp2_with (first
    | ((with_reducible refine gate_builtin (b := .append) (xs := #[.tmp 23, .tmp 24]) rfl ?_); at_builtin; refine Kd.R_append_rows k42 (Rr := fun x cs => cs = [.int .i64 x.f0, .string x.f1, .string x.f2]) (w0 := w0) w0.heap.size rfl (.tmp 23) (.tmp 24) 22 42 (.agg #[(.int .i64 0), (.string ⟨#[]⟩), (.string ⟨#[]⟩)]) 40 rfl Try.underlying22 api_Ref_29.info rfl (by decide) (by decide) (.slice A0 l0.length c0) l0 l2 A2 1 c2 (fun _ => True) (fun _ => False) rfl rfl HO.out HR.out (fun x cs e => by rw [e]; exact k42_mkM _ _ _ x) (fun _ h => h.elim) (fun _ _ => trivial) HB.out HB.out.size HH.out ?_; intro v2 w2 hR2 hb2 hg2 hv2; have HR2 := Aside0.mk hR2; have HB2 := Aside0.mk hb2; clear hR2 hb2 hg2 hv2))
  all_goals
    go_ret
    exact ⟨_, rfl, HR2.out, HB2.out⟩
set_option maxHeartbeats 4000000 in
set_option maxRecDepth 100000 in
theorem api_Ref_29.grow {g vb i n cap c2 : Nat} {cur cur2 : List Value} {w : World} (hG : M.rec_ w g 42 cur) (hV : M.rec_ w vb 42 cur2) (hi : i < n) (hnc : n ≤ cap) (hroom : cap < n + 1) (hbig : (n + 1) * 40 ≤ 140737488355328)
    (hcur : cur.length = cap * 3) (hcur2 : 3 ≤ cur2.length) (h1 : ∀ v ∈ cur.take (n * 3), v.oneCell' = true) (h2 : ∀ v ∈ cur2.take 3, v.oneCell' = true) :
    Calls Try.prog 29 #[.slice (some ⟨g, 0, none⟩) n cap, .int .i64 i, .slice (some ⟨vb, 0, none⟩) 1 c2] w fun e w' =>
      ∃ (G : Nat) (row : List Value), n + 1 ≤ G ∧ G ≤ maxLen ∧ row.length = G * 3 ∧ row.take (i * 3) = cur.take (i * 3) ∧ e = .returned (.slice (some ⟨w.heap.size, 0, none⟩) (n + 1) G) ∧ w' = (((w.alloc (.cells row.toArray 42)).drew.setCells w.heap.size (i * 3) (cur2.take 3)).drew).setCells w.heap.size ((i + 1) * 3) ((cur.drop (i * 3)).take ((n - i) * 3)) := by
  have hu := Try.underlying22
  have hz := Try.sizeOf42
  have mixed : Try.prog.follows Departure.mixedOrders = true := by kernel_rfl
  have hsz : (Try.prog.info? 42).map (·.size) = some 3 := by kernel_rfl
  obtain ⟨i0, hi0, hz0, hzs, hzb⟩ := info_parts api_Ref_29.info
  obtain ⟨seg, hseg⟩ : ∃ seg, seg = (cur.drop (i * 3)).take ((n - i) * 3) := ⟨_, rfl⟩
  obtain ⟨ys, hys⟩ : ∃ ys, ys = cur2.take 3 := ⟨_, rfl⟩
  have hsl : seg.length = (n - i) * 3 := by rw [hseg, List.length_take, List.length_drop, hcur]; omega
  have hyl : ys.length = 3 := by rw [hys, List.length_take]; omega
  have hs1 : ∀ v ∈ seg, v.oneCell' = true := by
    intro v hv
    refine h1 v ?_
    rw [hseg, show (n - i) * 3 = n * 3 - i * 3 by omega, ← List.drop_take] at hv
    exact List.mem_of_mem_drop hv
  have hold : (Builtin.firstCells i0.size i (.slice (some ⟨g, 0, none⟩) i cap)).run Try.prog w.drew = .ok (cur.take (i * 3)).toArray w.drew := by
    rw [hzs]
    exact run_firstCells_some w.drew 3 i ⟨g, 0, none⟩ i cap (cur.take (i * 3)) (by rw [List.length_take]; omega) (fun j v hj => by
      rw [M.addr_add, Nat.zero_add]
      rw [List.getElem?_take] at hj
      split at hj
      · exact M.rec_cell (show M.rec_ w.drew g 42 cur from hG) j v hj
      · cases hj)
  have hkk : (n : Int) + 1 - (i : Int) = ((n + 1 - i : Nat) : Int) := by omega
  have hik : i + (n + 1 - i) = n + 1 := by omega
  obtain ⟨G, hGd⟩ : ∃ G, G = grownCap w (n + 1) cap 42 := ⟨_, rfl⟩
  have hGn : n + 1 ≤ G := by rw [hGd]; exact grownCap_ge w _ _ _
  have hGm : G ≤ maxLen := by rw [hGd]; exact grownCap_le_maxLen w (n + 1) cap 42 (by unfold maxLen; omega)
  obtain ⟨ROW, hROW⟩ : ∃ ROW : Array Value, ROW = (cur.take (i * 3)).toArray ++ Builtin.zeroCells (Value.agg #[(.int .i64 0), (.string ⟨#[]⟩), (.string ⟨#[]⟩)]).cells (n + 1 - i) ++ Builtin.zeroCells (Value.agg #[(.int .i64 0), (.string ⟨#[]⟩), (.string ⟨#[]⟩)]).cells (G - (n + 1)) := ⟨_, rfl⟩
  have hrz : ∀ ty, (Builtin.append_ #[22, 3] ty #[.slice (some ⟨g, 0, none⟩) i cap, .int .i64 ((n : Int) + 1 - (i : Int))]).run Try.prog w = .ok (.slice (some ⟨w.heap.size, 0, none⟩) (n + 1) G) (w.drew.alloc (.cells ROW 42)) := fun ty => by
    have h := Lib.run_append_grow_zeros w 22 3 ty 42 i0 _ .i64 .i64 hu Try.underlying3 hi0 hz0 (some ⟨g, 0, none⟩) i cap (cur.take (i * 3)) hold (n + 1 - i) (by omega) (by omega) (by omega) (by omega) (by rw [hzb]; omega) (by rw [hzb, hik]; exact growslice_fits hroom hbig)
    rw [hik] at h
    rw [hkk, hROW, hGd]
    exact h
  have hRl : ROW.toList.length = G * 3 := by
    have hl : (cur.take (i * 3)).length = i * 3 := by rw [List.length_take]; omega
    have hzc : ∀ k, (Builtin.zeroCells (Value.agg #[(.int .i64 0), (.string ⟨#[]⟩), (.string ⟨#[]⟩)]).cells k).size = k * 3 := fun k => by rw [Go.size_zeroCells]; rfl
    rw [hROW, Array.length_toList, Array.size_append, Array.size_append, hzc, hzc, List.size_toArray, hl]; omega
  have hRt : ROW.toList.take (i * 3) = cur.take (i * 3) := by
    rw [hROW, Array.toList_append, Array.toList_append, List.append_assoc]
    exact List.take_left' (by rw [List.length_take]; omega)
  obtain ⟨row, hrow⟩ : ∃ row : List Value, row = ROW.toList := ⟨_, rfl⟩
  have hRr : ROW = row.toArray := by rw [hrow]
  rw [← hrow] at hRl hRt
  rw [hRr] at hrz
  clear hROW hrow hRr hkk hik hold hGd
  have hA : M.rec_ (w.alloc (.cells row.toArray 42)).drew w.heap.size 42 row := M.rec_new w _ row
  have hVA : M.rec_ (w.alloc (.cells row.toArray 42)).drew vb 42 cur2 := M.rec_alloc hV _
  have hGA : M.rec_ (w.alloc (.cells row.toArray 42)).drew g 42 cur := M.rec_alloc hG _
  have hcpA : ∀ (W : World), W = (w.alloc (.cells row.toArray 42)).drew → ∀ ty dc, (Builtin.copy_ #[22, 22] ty #[.slice (some ⟨w.heap.size, i * 3, none⟩) (n + 1 - i) dc, .slice (some ⟨vb, 0, none⟩) 1 c2]).run Try.prog W = .ok (goInt (1 : Nat)) (W.setCells w.heap.size (i * 3) ys) := by
    rintro W rfl ty dc
    exact M.copy_rec 3 _ _ ty 42 _ dc _ c2 1 ys hA hVA hu hsz (by simp only [Nat.min_def]; split <;> omega) hyl (by rw [hys, List.drop_zero]) (by rw [hyl, hRl]; omega) (by rw [hys]; exact h2)
  have hA2 := M.rec_setCells_go ys _ w.heap.size (i * 3) row hA (by rw [hyl, hRl]; omega)
  have hG2 : M.rec_ ((w.alloc (.cells row.toArray 42)).drew.setCells w.heap.size (i * 3) ys).drew g 42 cur := by
    have := M.rec_lt hG
    refine M.rec_drew ?_
    unfold M.rec_; rw [setCells_far _ _ _ (by omega)]; exact hGA
  have hcpB : ∀ (W : World), W = ((w.alloc (.cells row.toArray 42)).drew.setCells w.heap.size (i * 3) ys).drew → ∀ ty dc sc, (Builtin.copy_ #[22, 22] ty #[.slice (some ⟨w.heap.size, (i + 1) * 3, none⟩) (n - i) dc, .slice (some ⟨g, i * 3, none⟩) (n - i) sc]).run Try.prog W = .ok (goInt (n - i : Nat)) (W.setCells w.heap.size ((i + 1) * 3) seg) := by
    rintro W rfl ty dc sc
    exact M.copy_rec 3 _ _ ty 42 _ dc _ sc (n - i) seg (M.rec_drew hA2) hG2 hu hsz (by simp only [Nat.min_def]; split <;> omega) hsl hseg (by rw [hsl, List.length_append, List.length_append, List.length_take, List.length_drop, hyl, hRl]; omega) hs1
  have hG63 : G ≤ 9223372036854775807 := by unfold maxLen at hGm; omega
  rw [← hys, ← hseg]
  have hz2 : ¬ ((i : Int) = (n : Int)) := by omega
  have hz3 : (cap : Int) < (n : Int) + 1 := by omega
  have hw1 : IntKind.i64.wrap ((i : Int) + 1) = (i : Int) + 1 := by rw [IntKind.wrap_i64]; omega
  have hw2 : IntKind.i64.wrap ((n : Int) + 1) = (n : Int) + 1 := by rw [IntKind.wrap_i64]; omega
  have hw3 : IntKind.i64.wrap ((n : Int) + 1 - (i : Int)) = (n : Int) + 1 - (i : Int) := by rw [IntKind.wrap_i64]; omega
  have hb1 : (0 : Int) ≤ (i : Int) + 1 := by omega
  have hin : i ≤ n := by omega
  have htn : ((i : Int) + 1).toNat = i + 1 := by omega
  have hGi : ¬ (G = i) := by omega
  have hGim : ¬ (G = i + 1) := by omega
  have hci : ¬ (cap = i) := by omega
  have hb3 : (i : Int) ≤ (n : Int) := by omega
  have hb6 : (i : Int) ≤ (n : Int) + 1 := by omega
  have hGP := Aside0.mk (And.intro hGn (And.intro hGm (And.intro hRl hRt)))
  clear hGm hRl hRt hA hVA hGA hA2 hG2 hs1 h1 h2 hcur hcur2 hseg hys hsl hyl hV hG hzs hzb hz0 hi0
  go_enter Try.func29, Try.ntmps29
  go_wp2_with (first
    | (at_builtin; refine Lib.wpList_append_run _ rfl _ _ _ _ rfl _ _ rfl rfl _ _ (hrz _) ?_)
    | (at_builtin; refine wpList_copy_runI _ rfl _ _ 22 22 rfl _ _ rfl rfl (hcpA _ rfl _ _) ?_))
  go_region_law_o (refine step_copy_runI rfl _ _ 22 22 rfl (.slice (some ⟨w.heap.size, (i + 1) * 3, none⟩) (n - i) (G - (i + 1))) (.slice (some ⟨g, i * 3, none⟩) (n - i) (cap - i)) (by simp [Act.eval, Act.put]) (by simp [Act.eval, Act.put]) (hcpB _ rfl 3 (G - (i + 1)) (cap - i)) ?_)
  go_wp2
  go_ret
  exact ⟨G, row, hGP.out.1, hGP.out.2.1, hGP.out.2.2.1, hGP.out.2.2.2, rfl, rfl⟩
set_option maxHeartbeats 4000000 in
set_option maxRecDepth 100000 in
theorem api_Ref_29.shift {g vb i n cap c2 : Nat} {cur cur2 : List Value} {w : World} (hG : M.rec_ w g 42 cur) (hV : M.rec_ w vb 42 cur2) (hvb : vb ≠ g) (hi : i < n) (hroom : n + 1 ≤ cap) (hc63 : cap ≤ 9223372036854775807)
    (hcur : cur.length = cap * 3) (hcur2 : 3 ≤ cur2.length) (h1 : ∀ v ∈ cur.take (n * 3), v.oneCell' = true) (h2 : ∀ v ∈ cur2.take 3, v.oneCell' = true) :
    Calls Try.prog 29 #[.slice (some ⟨g, 0, none⟩) n cap, .int .i64 i, .slice (some ⟨vb, 0, none⟩) 1 c2] w fun e w' =>
      e = .returned (.slice (some ⟨g, 0, none⟩) (n + 1) cap) ∧ w' = (w.drew.setCells g ((i + 1) * 3) ((cur.drop (i * 3)).take ((n - i) * 3))).setCells g (i * 3) (cur2.take 3) := by
  have hu := Try.underlying22
  have hz := Try.sizeOf42
  have hsz : (Try.prog.info? 42).map (·.size) = some 3 := by kernel_rfl
  obtain ⟨seg, hseg⟩ : ∃ seg, seg = (cur.drop (i * 3)).take ((n - i) * 3) := ⟨_, rfl⟩
  obtain ⟨ys, hys⟩ : ∃ ys, ys = cur2.take 3 := ⟨_, rfl⟩
  have hsl : seg.length = (n - i) * 3 := by rw [hseg, List.length_take, List.length_drop, hcur]; omega
  have hyl : ys.length = 3 := by rw [hys, List.length_take]; omega
  have hs1 : ∀ v ∈ seg, v.oneCell' = true := by
    intro v hv
    refine h1 v ?_
    rw [hseg, show (n - i) * 3 = n * 3 - i * 3 by omega, ← List.drop_take] at hv
    exact List.mem_of_mem_drop hv
  have mixed : Try.prog.follows Departure.mixedOrders = true := by kernel_rfl
  have hz2 : ¬ ((i : Int) = (n : Int)) := by omega
  have hov : ∀ lb cb, (callFunc 39 #[.slice (some ⟨vb, 0, none⟩) 1 c2, .slice (some ⟨g, (i + 1) * 3, none⟩) lb cb]).run Try.prog w = .ok (.value (.bool false)) w := fun lb cb => by
    rw [run_callFunc_extern Try.func39 (by kernel_rfl) (by kernel_rfl) (by kernel_rfl) (e := Extern.SlicesOverlaps.overlaps #[22, 22] #[4]) (by kernel_rfl),
      Lib.run_overlaps_apart w 22 4 42 hu 3 hz ⟨vb, 0, none⟩ ⟨g, (i + 1) * 3, none⟩ 1 c2 lb cb hvb 42 42 cur2.length cur.length (by unfold World.shape?; rw [hV]; simp) (by unfold World.shape?; rw [hG]; simp) (by omega) (M.rec_free hV _) (M.rec_free hV _)]
    rfl
  have hw1 : IntKind.i64.wrap ((i : Int) + 1) = (i : Int) + 1 := by rw [IntKind.wrap_i64]; omega
  have hw2 : IntKind.i64.wrap ((n : Int) + 1) = (n : Int) + 1 := by rw [IntKind.wrap_i64]; omega
  have hb1 : (0 : Int) ≤ (i : Int) + 1 := by omega
  have hin : i ≤ n := by omega
  have htn : ((i : Int) + 1).toNat = i + 1 := by omega
  have htn2 : ((n : Int) + 1).toNat = n + 1 := by omega
  have hb2 : ¬ (cap = i + 1) := by omega
  have hb3 : (i : Int) ≤ (n : Int) + 1 := by omega
  have hb4 : ¬ (cap = i) := by omega
  have hb5 : ¬ ((cap : Int) < (n : Int) + 1) := by omega
  have hrD : M.rec_ w.drew g 42 cur := hG
  have hcp1 : ∀ ty dc sc, (Builtin.copy_ #[22, 22] ty #[.slice (some ⟨g, (i + 1) * 3, none⟩) (n - i) dc, .slice (some ⟨g, i * 3, none⟩) (n + 1 - i) sc]).run Try.prog w.drew = .ok (goInt (n - i : Nat)) (w.drew.setCells g ((i + 1) * 3) seg) := fun ty dc sc =>
    M.copy_rec 3 _ _ ty 42 _ dc _ sc (n - i) seg hrD hrD hu hsz (by simp only [Nat.min_def]; split <;> omega) hsl hseg (by rw [hsl, hcur]; omega) hs1
  obtain ⟨W1, hW1⟩ : ∃ W1, W1 = w.drew.setCells g ((i + 1) * 3) seg := ⟨_, rfl⟩
  have hG1 : M.rec_ W1 g 42 (cur.take ((i + 1) * 3) ++ seg ++ cur.drop ((i + 1) * 3 + seg.length)) := by rw [hW1]; exact M.rec_setCells_go seg _ g _ cur hrD (by rw [hsl, hcur]; omega)
  have hV1 : M.rec_ W1 vb 42 cur2 := by rw [hW1]; unfold M.rec_; rw [setCells_far _ _ _ hvb]; exact hV
  have hcp2 : ∀ (W : World), W = W1 → ∀ ty dc, (Builtin.copy_ #[22, 22] ty #[.slice (some ⟨g, i * 3, none⟩) (n + 1 - i) dc, .slice (some ⟨vb, 0, none⟩) 1 c2]).run Try.prog W = .ok (goInt (1 : Nat)) (W.setCells g (i * 3) ys) := by
    rintro W rfl ty dc
    exact M.copy_rec 3 _ _ ty 42 _ dc _ c2 1 ys hG1 hV1 hu hsz (by simp only [Nat.min_def]; split <;> omega) hyl (by rw [hys, List.drop_zero]) (by rw [hyl, List.length_append, List.length_append, List.length_take, List.length_drop, hsl, hcur]; omega) (by rw [hys]; exact h2)
  rw [← hW1] at hcp1
  rw [← hys, ← hseg, ← hW1]
  clear hG1 hV1 hW1 hrD hs1 h1 h2 hcur hcur2 hseg hys hsl hyl hV hG
  go_enter Try.func29, Try.ntmps29
  go_wp2_with (simp only [hov])
  go_region_law_o (refine step_copy_runI rfl _ _ 22 22 rfl _ _ (by simp [Act.eval, Act.put]) (by simp [Act.eval, Act.put]) (hcp1 _ _ _) ?_)
  go_wp2_with (at_builtin; refine wpList_copy_runI _ rfl _ _ 22 22 rfl _ _ rfl rfl (hcp2 _ rfl _ _) ?_)
  go_ret
  exact ⟨rfl, rfl⟩
def api_Ref_29.cs (x : S42) : List Value := [.int .i64 x.f0, .string x.f1, .string x.f2]
theorem api_Ref_29.cs3 (x : S42) : (api_Ref_29.cs x).length = 3 := rfl
theorem api_Ref_29.one (xs : List S42) : ∀ v ∈ xs.flatMap api_Ref_29.cs, v.oneCell' = true := by
  intro v hv
  obtain ⟨x, _, hx⟩ := List.mem_flatMap.1 hv
  unfold api_Ref_29.cs at hx
  rcases List.mem_cons.1 hx with rfl | hx
  · rfl
  rcases List.mem_cons.1 hx with rfl | hx
  · rfl
  rcases List.mem_cons.1 hx with rfl | hx
  · rfl
  · cases hx
/-- What stands in memory under a row of the call's own. -/
theorem api_Ref_29.open_ {A : Option Addr} {c B : Nat} {ok : Nat → Prop} {l : List S42} {w : World} (h : Kd.R k42 42 w B ok (.slice A l.length c) l) (hl : 0 < l.length) :
    ∃ g cur, A = some ⟨g, 0, none⟩ ∧ B ≤ g ∧ M.rec_ w g 42 cur ∧ l.length ≤ c ∧ c ≤ maxLen ∧ cur.length = c * 3 ∧ cur.take (l.length * 3) = l.flatMap api_Ref_29.cs := by
  obtain ⟨_, inner, hown, hr⟩ := h
  have hi := M.reps_flat api_Ref_29.cs (fun x cs h => k42_openM h) l inner hr
  rcases hown.2 with ⟨_, h0⟩ | ⟨g, cap, cur, e, hB, hg, hn, hc, hs, ht⟩
  · omega
  · cases e
    exact ⟨g, cur.toList, rfl, hB, by unfold M.rec_; rw [hg], hn, hc, by rw [Array.length_toList]; exact hs, ht.trans hi⟩
/-- .. and back. -/
theorem api_Ref_29.close_ {g c B n : Nat} {cur : List Value} {l : List S42} {w : World} (hB : B ≤ g) (h : M.rec_ w g 42 cur) (hn : l.length = n) (hc : n ≤ c) (hm : c ≤ maxLen) (hl : cur.length = c * 3) (ht : cur.take (n * 3) = l.flatMap api_Ref_29.cs) :
    Kd.R k42 42 w B (fun _ => True) (.slice (some ⟨g, 0, none⟩) n c) l := by
  subst hn
  refine ⟨fun _ _ => trivial, l.flatMap api_Ref_29.cs, ⟨M.flat_len _ api_Ref_29.cs3 l, .inr ⟨g, c, cur.toArray, rfl, hB, h, hc, hm, by rw [List.size_toArray]; exact hl, ht⟩⟩, M.flat_reps _ api_Ref_29.cs3 (fun x => k42_mkM _ _ _ x) l⟩
theorem api_Ref_29.own {A0 A2 : Option Addr} {c0 c2 : Nat} {l0 l2 r : List S42} {a1 : Int} {P0 P2 : Nat → Prop} {w0 w : World} (hB : Below w0.heap.size w0 w)
    (h0 : Kd.R k42 42 w w0.heap.size (fun k => P0 k ∧ some k ≠ (Value.slice A2 l2.length c2).ownBlock) (.slice A0 l0.length c0) l0) (h2 : Kd.R k42 42 w w0.heap.size P2 (.slice A2 l2.length c2) l2) (h : api_Ref_29.f l0 a1 l2 = some r) :
    Calls Try.prog 29 #[.slice A0 l0.length c0, .int .i64 a1, .slice A2 l2.length c2] w fun e w' => ∃ v', e = .returned v' ∧ Kd.R k42 42 w' w0.heap.size (fun _ => True) v' r ∧ Below w0.heap.size w0 w' := by
  unfold api_Ref_29.f at h
  split at h
  case isFalse => cases h
  case isTrue hh =>
    obtain ⟨g1, g2, g3, g4⟩ := hh
    obtain rfl := Option.some.inj h
    clear h
    obtain ⟨i, rfl⟩ := Int.eq_ofNat_of_zero_le g1
    rw [Int.toNat_natCast]
    obtain ⟨hc0, _⟩ := api_Ref_29.reads h0
    obtain ⟨hc2, hr2⟩ := api_Ref_29.reads h2
    by_cases hend : i = l0.length
    · subst hend
      rw [g4] at hc2 hr2 ⊢
      rw [List.take_of_length_le (Nat.le_refl _), List.drop_of_length_le (Nat.le_refl _), List.append_nil]
      exact api_Ref_29.end_ hB (Kd.R_mono h0 (fun _ _ => trivial)) hc0 hr2 hc2 g3
    · have hi : i < l0.length := by omega
      obtain ⟨g, cur, rfl, hg, hG, hn, hm, hcur, ht⟩ := api_Ref_29.open_ h0 (by omega)
      obtain ⟨vb, cur2, rfl, hvb, hV, hn2, hm2, hcur2, ht2⟩ := api_Ref_29.open_ h2 (by omega)
      have hne : vb ≠ g := fun e => (h0.1 g rfl).2 (by rw [e]; rfl)
      have hBw := hB.size
      have hgw := M.rec_lt hG
      have h1 : ∀ v ∈ cur.take (l0.length * 3), v.oneCell' = true := by rw [ht]; exact api_Ref_29.one l0
      have h2' : ∀ v ∈ cur2.take 3, v.oneCell' = true := by
        have : cur2.take 3 = l2.flatMap api_Ref_29.cs := by rw [← ht2, g4]
        rw [this]; exact api_Ref_29.one l2
      have hys : cur2.take 3 = l2.flatMap api_Ref_29.cs := by rw [← ht2, g4]
      have hyl : (cur2.take 3).length = 3 := by rw [List.length_take]; omega
      have hlen : (l0.take i ++ l2 ++ l0.drop i).length = l0.length + 1 := by rw [List.length_append, List.length_append, List.length_take, List.length_drop, g4]; omega
      have hfl : (l0.take i ++ l2 ++ l0.drop i).flatMap api_Ref_29.cs = (l0.flatMap api_Ref_29.cs).take (i * 3) ++ cur2.take 3 ++ (l0.flatMap api_Ref_29.cs).drop (i * 3) := by
        rw [List.flatMap_append, List.flatMap_append, M.flat_take _ api_Ref_29.cs3, M.flat_drop _ api_Ref_29.cs3, hys]
      rw [g4]
      by_cases hroom : l0.length + 1 ≤ c0
      · refine (api_Ref_29.shift hG hV hne hi hroom (by unfold maxLen at hm; omega) hcur (by omega) h1 h2').mono ?_
        rintro e w' ⟨rfl, rfl⟩
        have hsl : ((cur.drop (i * 3)).take ((l0.length - i) * 3)).length = (l0.length - i) * 3 := by rw [List.length_take, List.length_drop, hcur]; omega
        have r1 := M.rec_setCells_go ((cur.drop (i * 3)).take ((l0.length - i) * 3)) w.drew g ((i + 1) * 3) cur (M.rec_drew hG) (by rw [hsl, hcur]; omega)
        have r2 := M.rec_setCells_go (cur2.take 3) _ g (i * 3) _ r1 (by rw [hyl, List.length_append, List.length_append, List.length_take, List.length_drop, hsl, hcur]; omega)
        refine ⟨_, rfl, ?_, M.below_setCells (M.below_setCells (below_drew1 hB) _ g _ hg) _ g _ hg⟩
        refine api_Ref_29.close_ hg r2 hlen hroom hm ?_ ?_
        · simp only [List.length_append, List.length_take, List.length_drop, hcur]; omega
        · rw [hfl]
          exact M.ins_list 3 cur (l0.flatMap api_Ref_29.cs) (cur2.take 3) ht hyl hi (by rw [hcur]; omega)
      · refine (api_Ref_29.grow hG hV hi hn (by omega) g3 hcur (by omega) h1 h2').mono ?_
        rintro e w' ⟨G, row, q1, q2, q3, q4, rfl, rfl⟩
        have hsl : ((cur.drop (i * 3)).take ((l0.length - i) * 3)).length = (l0.length - i) * 3 := by rw [List.length_take, List.length_drop, hcur]; omega
        have r0 : M.rec_ (w.alloc (.cells row.toArray 42)).drew w.heap.size 42 row := M.rec_new w _ row
        have r1 := M.rec_setCells_go (cur2.take 3) _ w.heap.size (i * 3) row r0 (by rw [hyl, q3]; omega)
        have r2 := M.rec_setCells_go ((cur.drop (i * 3)).take ((l0.length - i) * 3)) _ w.heap.size ((i + 1) * 3) _ (M.rec_drew r1) (by rw [hsl, List.length_append, List.length_append, List.length_take, List.length_drop, hyl, q3]; omega)
        refine ⟨_, rfl, ?_, M.below_setCells (below_drew1 (M.below_setCells (below_drew1 (below_alloc hB _)) _ w.heap.size _ hBw)) _ w.heap.size _ hBw⟩
        refine api_Ref_29.close_ hBw r2 hlen q1 q2 ?_ ?_
        · simp only [List.length_append, List.length_take, List.length_drop, q3, hcur]; omega
        · have := M.grow_list (a := i * 3) (sz := 3) (b := l0.length * 3) row (cur2.take 3) ((cur.drop (i * 3)).take ((l0.length - i) * 3)) hyl (by rw [hsl]; omega) (by omega) (by rw [q3]; omega)
          rw [hfl, ← ht, hyl]
          rw [show (i + 1) * 3 = i * 3 + 3 by omega, show (l0.length + 1) * 3 = l0.length * 3 + 3 by omega, this, q4, List.take_take, Nat.min_eq_left (by omega), List.drop_take, show l0.length * 3 - i * 3 = (l0.length - i) * 3 by omega]

end Go.Proofs.Ytkaglpjdeinbhaa.ERefsRecords
