-- Written by this session's own program (wip/tools/ext.py) for this claim; Lean checks it.
import Derived.Test.YtaooolfledfhoaaEVarintSignsx0
import Derived.Test.YtaooolfledfhoaaEVarintSignsx1
namespace Go.Proofs.Ytaooolfledfhoaa.EVarintSigns
open Go.RowKit Go.Proofs.YtaooolfledfhoaaW.PrintWords Go.Proofs.YtaooolfledfhoaaW.PrintLast Go.Proofs.YtaooolfledfhoaaW.PrintMore
attribute [local go_sem] max2_int min2_int max_two min_two max_three min_three max_four min_four   -- for this text's walks alone
set_option linter.unusedVariables false
set_option linter.unusedSimpArgs false

/-! ### pleachref01_Put_p: function 17 -/
def pleachref01_Put_p.l0 : Nat → List Int → ByteArray → Int → Option (ByteArray)
  | 0, _, _, _ => none
  | k + 1, x3, x4, x5 => if x5 < (x3.length : Int) then (if 0 ≤ x5 then (if (wrap64 (x5 + 1)) < (x3.length : Int) then ((some (([(wrap64 ((rd x3 x5) + 128)) % 256] : List Int) : List Int)).bind fun y125 => (if x4.size + (strOfNums y125).size ≤ 9223372036854775807 then (pleachref01_Put_p.l0 k x3 (x4 ++ (strOfNums y125)) (wrap64 (x5 + 1))) else (none))) else ((some (([(rd x3 x5) % 256] : List Int) : List Int)).bind fun y128 => (if x4.size + (strOfNums y128).size ≤ 9223372036854775807 then (pleachref01_Put_p.l0 k x3 (x4 ++ (strOfNums y128)) (wrap64 (x5 + 1))) else (none)))) else (none)) else (some x4)
def pleachref01_Put_p.f (k : Nat) (a0 : Int) : Option (ByteArray) := (pleachref01_Digits.f a0).bind fun t121 => (pleachref01_Put_p.l0 k t121 (⟨#[]⟩ : ByteArray) 0)
theorem pleachref01_Put_p.mono_l : ∀ k, (∀ y0 y1 y2, LeO (pleachref01_Put_p.l0 k y0 y1 y2) (pleachref01_Put_p.l0 (k + 1) y0 y1 y2))
  | 0 => fun _ _ _ r h => by simp [pleachref01_Put_p.l0] at h
  | k + 1 => by
    have ih0 := pleachref01_Put_p.mono_l k
    · intro y0 y1 y2
      unfold pleachref01_Put_p.l0
      repeat' first
      | (with_reducible exact ih0 _ _ _)
      | (with_reducible exact LeO.refl _)
      | (with_reducible exact LeO.none _)
      | (with_reducible refine LeO.ite ?_ ?_)
      | (with_reducible refine LeO.bind ?_ (fun _ => ?_))
      | exact ih0 _ _ _
      | exact LeO.none _
      | refine LeO.ite ?_ ?_
      | refine LeO.bind ?_ (fun _ => ?_)
theorem pleachref01_Put_p.mono : ∀ a0 k, LeO (pleachref01_Put_p.f k a0) (pleachref01_Put_p.f (k + 1) a0) := by
  intro a0 k
  have ih0 := pleachref01_Put_p.mono_l k
  unfold pleachref01_Put_p.f
  repeat' first
      | (with_reducible exact ih0 _ _ _)
      | (with_reducible exact LeO.refl _)
      | (with_reducible exact LeO.none _)
      | (with_reducible refine LeO.ite ?_ ?_)
      | (with_reducible refine LeO.bind ?_ (fun _ => ?_))
      | exact ih0 _ _ _
      | exact LeO.none _
      | refine LeO.ite ?_ ?_
      | refine LeO.bind ?_ (fun _ => ?_)
set_option maxHeartbeats 8000000 in
set_option maxRecDepth 100000 in
theorem pleachref01_Put_p.calls (k : Nat) (a0 : Int) (r : ByteArray) (w : World) (h : pleachref01_Put_p.f k a0 = some r) :
    Calls Try.prog 17 #[.int .u64 a0] w fun e w' => e = .returned (.string r) ∧ Below w.heap.size w w' := by
  have HB := Aside0.mk (Below.refl w.heap.size w)
  have H : ((pleachref01_Digits.f a0).bind fun t121 => (pleachref01_Put_p.l0 k t121 (⟨#[]⟩ : ByteArray) 0)) = some r := h
  clear h
  replace H := Option.bind_eq_some_iff.mp H
  obtain ⟨t121, A20, H⟩ := H
  replace H : (pleachref01_Put_p.l0 k t121 (⟨#[]⟩ : ByteArray) 0) = some r := H
  have A2 := Aside0.mk A20
  clear A20
  have H' := Aside0.mk H
  clear H
  go_enter Try.func17, Try.ntmps17
  go_wp2_with (first | ((with_reducible refine gate_callee (f := 19) rfl ?_); refine goesL_ (some 8) rfl rfl Try.func19 (by kernel_rfl) rfl #[.int .u64 a0] rfl (by (try simp only [List.map_toArray, List.map_cons, List.map_nil]); first | done | rfl | (simp only [List.length_drop, List.length_take]; rfl)) ?_; (with_reducible refine (pleachref01_Digits.calls a0 t121 _ A2.out).mono ?_); rintro e w3 ⟨v122, rfl, ho0, hb⟩; refine ⟨_, rfl, ?_⟩; have n0_ := Aside0.mk (Kd.R_lower ho0 (below_size (by repeat (first | (with_reducible first | exact HB.out | apply below_alloc | apply pw_below_drewN | apply below_drew1) | exact HB.out)))); have n1_ := Aside0.mk (below_step (by repeat (first | (with_reducible first | exact HB.out | apply below_alloc | apply pw_below_drewN | apply below_drew1) | exact HB.out)) hb); clear HB; have HO123 := n0_; have HB := n1_; clear n0_ n1_; (try clear hb); (try clear hb2); (try clear hk); (try clear hi); (try clear ho0)))
  go_loopg [4, 5] k (fun kq v4 v5 w' => ∃ (x4_1 : ByteArray) (x5_1 : Int), v4 = .string x4_1 ∧ v5 = .int .i64 x5_1 ∧ Aside0 (pleachref01_Put_p.l0 kq t121 x4_1 x5_1 = some r) ∧ Aside0 (kq ≤ k) ∧ Aside0 (Kd.R (Kd.int .i64) 3 w' w.heap.size (fun _ => True) v122 t121) ∧ Aside0 (Below w.heap.size w w'))
  case atStart => exact ⟨((⟨#[]⟩ : ByteArray)), (0), (by first | rfl | (simp; done) | (simp [*]; done)), (by first | rfl | (simp; done) | (simp [*]; done)), H', ⟨Nat.le_refl _⟩, ⟨by (with_reducible repeat (first | apply Kd.R_alloc | apply Kd.R_drewN | apply Kd.R_drew)); exact HO123.out⟩, ⟨by repeat (first | (with_reducible first | exact HB.out | apply below_alloc | apply pw_below_drewN | apply below_drew1) | exact HB.out)⟩⟩
  case round =>
    clear H'
    try clear c1
    try clear p2
    obtain ⟨x4_1, x5_1, rfl, rfl, HA, HK1, HO_3, HB⟩ := hrel
    cases gk with
    | zero => exact absurd HA.out (by simp [pleachref01_Put_p.l0])
    | succ k1 =>
      have H := HA.out
      clear HA
      simp only [pleachref01_Put_p.l0] at H
      by_cases c4 : x5_1 < (t121.length : Int)
      · rw [if_pos c4] at H
        have c4b0 : decide (x5_1 < (t121.length : Int)) = true := decide_eq_true c4
        clear c4
        by_cases c5 : 0 ≤ x5_1
        · rw [if_pos c5] at H
          have c5b0 : decide (0 ≤ x5_1) = true := decide_eq_true c5
          clear c5
          by_cases c6 : (wrap64 (x5_1 + 1)) < (t121.length : Int)
          · rw [if_pos c6] at H
            have c6b0 : decide ((wrap64 (x5_1 + 1)) < (t121.length : Int)) = true := decide_eq_true c6
            clear c6
            obtain ⟨y125, hy125⟩ : ∃ y_ : List Int, y_ = (([(wrap64 ((rd t121 x5_1) + 128)) % 256] : List Int)) := ⟨_, rfl⟩
            replace H : (if x4_1.size + (strOfNums y125).size ≤ 9223372036854775807 then (pleachref01_Put_p.l0 k1 t121 (x4_1 ++ (strOfNums y125)) (wrap64 (x5_1 + 1))) else (none)) = some r := by first | (rw [hy125]; with_reducible exact H) | (have H2_ := (Option.bind_some _ _).symm.trans H; rw [hy125]; with_reducible exact H2_) | (have H2_ := (Option.bind_some _ _).symm.trans H; with_reducible exact H2_) | with_reducible exact H | (rw [hy125]; exact H) | exact H
            have Ny125 := Aside0.mk hy125
            clear hy125
            by_cases c7 : x4_1.size + (strOfNums y125).size ≤ 9223372036854775807
            · rw [if_pos c7] at H
              have c7b0 := eq_true c7
              have c7b1 : decide (x4_1.size + (strOfNums y125).size ≤ 9223372036854775807) = true := decide_eq_true c7
              try have c7b2 : (9223372036854775807 < x4_1.size + (strOfNums y125).size) = False := eq_false (Nat.not_lt.2 c7)
              have H' := Aside0.mk H
              clear H
              obtain ⟨Ao8, co8, eo8⟩ := Kd.R_slice HO_3.out
              subst eo8
              have p124 : 0 ≤ (x5_1 : Int) := of_decide_eq_true (by first | (with_reducible assumption) | assumption)
              have q124 : x5_1 < (t121.length : Int) := of_decide_eq_true (by first | (with_reducible assumption) | assumption)
              obtain ⟨ad124, e124, hx124_0⟩ := Kd.at_int (Kd.R_reads' HO_3.out).2.2 x5_1 p124 q124
              cases e124
              replace p124 := eq_true p124
              replace q124 := eq_true q124
              go_wp2_with (first | ((with_reducible refine gate_dst (N := 29) rfl ?_); refine Kd.R_lit (Kd.int .u8) _ 5 ?hg (N := 29) ?hd (xs := ([(wrap64 ((rd t121 x5_1) + 128)) % 256] : List Int)) (inner := [.int .u8 ((wrap64 ((rd t121 x5_1) + 128)) % 256)]) (ok := fun _ => True) (okp := fun _ => True) ?hr ?hp (fun _ hk => hk) trivial (Below.refl _ _) (Nat.le_refl _) (by simp) ?_; (case hd => rfl); (case hg => rfl); (case hr => first | (go_simp; done) | (go_simp; rfl)); (case hp => exact (Reps.one (show Kd.M (Kd.int .u8) _ _ _ ((wrap64 ((rd t121 x5_1) + 128)) % 256) [.int .u8 ((wrap64 ((rd t121 x5_1) + 128)) % 256)] from rfl) (Reps.none _ _))); intro v126 w9 ho10 hb hg_ hnew_; clear hg_ hnew_; (first | rw [← Ny125.out] at ho10 | (simp only [Int.reduceToNat] at ho10; rw [← Ny125.out] at ho10)); have n0_ := Aside0.mk (Kd.R_below (by (with_reducible repeat (first | apply Kd.R_alloc | apply Kd.R_drewN | apply Kd.R_drew)); exact HO_3.out) hb); have n1_ := Aside0.mk (Kd.R_lower ho10 (below_size (by repeat (first | (with_reducible first | exact HB.out | apply below_alloc | apply pw_below_drewN | apply below_drew1) | exact HB.out)))); have n2_ := Aside0.mk (below_step (by repeat (first | (with_reducible first | exact HB.out | apply below_alloc | apply pw_below_drewN | apply below_drew1) | exact HB.out)) hb); clear HO_3; clear HB; have HO_3 := n0_; have HO127 := n1_; have HB := n2_; clear n0_ n1_ n2_; clear hb ho10; have hcv11 := own_string (P := Try.prog) Try.underlying45 Try.underlying5 Try.underlying9 (Kd.own_of_R HO127.out)))
              go_roundg k1
              case measure => have := HK1.out; omega
              case rel => exact ⟨(x4_1 ++ (strOfNums y125)), (wrap64 (x5_1 + 1)), (by first | rfl | (simp; done) | (simp [*]; done)), (by first | rfl | (simp; done) | (simp [*]; done)), H', ⟨by have := HK1.out; omega⟩, ⟨by (with_reducible repeat (first | apply Kd.R_alloc | apply Kd.R_drewN | apply Kd.R_drew)); exact HO_3.out⟩, ⟨by repeat (first | (with_reducible first | exact HB.out | apply below_alloc | apply pw_below_drewN | apply below_drew1) | exact HB.out)⟩⟩
            · rw [if_neg c7] at H
              exact absurd H (by simp)
          · rw [if_neg c6] at H
            have c6b0 : decide ((wrap64 (x5_1 + 1)) < (t121.length : Int)) = false := decide_eq_false c6
            clear c6
            obtain ⟨y128, hy128⟩ : ∃ y_ : List Int, y_ = (([(rd t121 x5_1) % 256] : List Int)) := ⟨_, rfl⟩
            replace H : (if x4_1.size + (strOfNums y128).size ≤ 9223372036854775807 then (pleachref01_Put_p.l0 k1 t121 (x4_1 ++ (strOfNums y128)) (wrap64 (x5_1 + 1))) else (none)) = some r := by first | (rw [hy128]; with_reducible exact H) | (have H2_ := (Option.bind_some _ _).symm.trans H; rw [hy128]; with_reducible exact H2_) | (have H2_ := (Option.bind_some _ _).symm.trans H; with_reducible exact H2_) | with_reducible exact H | (rw [hy128]; exact H) | exact H
            have Ny128 := Aside0.mk hy128
            clear hy128
            by_cases c12 : x4_1.size + (strOfNums y128).size ≤ 9223372036854775807
            · rw [if_pos c12] at H
              have c12b0 := eq_true c12
              have c12b1 : decide (x4_1.size + (strOfNums y128).size ≤ 9223372036854775807) = true := decide_eq_true c12
              try have c12b2 : (9223372036854775807 < x4_1.size + (strOfNums y128).size) = False := eq_false (Nat.not_lt.2 c12)
              have H' := Aside0.mk H
              clear H
              obtain ⟨Ao13, co13, eo13⟩ := Kd.R_slice HO_3.out
              subst eo13
              have p124 : 0 ≤ (x5_1 : Int) := of_decide_eq_true (by first | (with_reducible assumption) | assumption)
              have q124 : x5_1 < (t121.length : Int) := of_decide_eq_true (by first | (with_reducible assumption) | assumption)
              obtain ⟨ad124, e124, hx124_0⟩ := Kd.at_int (Kd.R_reads' HO_3.out).2.2 x5_1 p124 q124
              cases e124
              replace p124 := eq_true p124
              replace q124 := eq_true q124
              go_wp2_with (first | ((with_reducible refine gate_dst (N := 29) rfl ?_); refine Kd.R_lit (Kd.int .u8) _ 5 ?hg (N := 29) ?hd (xs := ([(rd t121 x5_1) % 256] : List Int)) (inner := [.int .u8 ((rd t121 x5_1) % 256)]) (ok := fun _ => True) (okp := fun _ => True) ?hr ?hp (fun _ hk => hk) trivial (Below.refl _ _) (Nat.le_refl _) (by simp) ?_; (case hd => rfl); (case hg => rfl); (case hr => first | (go_simp; done) | (go_simp; rfl)); (case hp => exact (Reps.one (show Kd.M (Kd.int .u8) _ _ _ ((rd t121 x5_1) % 256) [.int .u8 ((rd t121 x5_1) % 256)] from rfl) (Reps.none _ _))); intro v129 w14 ho15 hb hg_ hnew_; clear hg_ hnew_; (first | rw [← Ny128.out] at ho15 | (simp only [Int.reduceToNat] at ho15; rw [← Ny128.out] at ho15)); have n0_ := Aside0.mk (Kd.R_below (by (with_reducible repeat (first | apply Kd.R_alloc | apply Kd.R_drewN | apply Kd.R_drew)); exact HO_3.out) hb); have n1_ := Aside0.mk (Kd.R_lower ho15 (below_size (by repeat (first | (with_reducible first | exact HB.out | apply below_alloc | apply pw_below_drewN | apply below_drew1) | exact HB.out)))); have n2_ := Aside0.mk (below_step (by repeat (first | (with_reducible first | exact HB.out | apply below_alloc | apply pw_below_drewN | apply below_drew1) | exact HB.out)) hb); clear HO_3; clear HB; have HO_3 := n0_; have HO130 := n1_; have HB := n2_; clear n0_ n1_ n2_; clear hb ho15; have hcv16 := own_string (P := Try.prog) Try.underlying45 Try.underlying5 Try.underlying9 (Kd.own_of_R HO130.out)))
              go_roundg k1
              case measure => have := HK1.out; omega
              case rel => exact ⟨(x4_1 ++ (strOfNums y128)), (wrap64 (x5_1 + 1)), (by first | rfl | (simp; done) | (simp [*]; done)), (by first | rfl | (simp; done) | (simp [*]; done)), H', ⟨by have := HK1.out; omega⟩, ⟨by (with_reducible repeat (first | apply Kd.R_alloc | apply Kd.R_drewN | apply Kd.R_drew)); exact HO_3.out⟩, ⟨by repeat (first | (with_reducible first | exact HB.out | apply below_alloc | apply pw_below_drewN | apply below_drew1) | exact HB.out)⟩⟩
            · rw [if_neg c12] at H
              exact absurd H (by simp)
        · rw [if_neg c5] at H
          exact absurd H (by simp)
      · rw [if_neg c4] at H
        have c4b0 : decide (x5_1 < (t121.length : Int)) = false := decide_eq_false c4
        clear c4
        obtain rfl := Option.some.inj H
        obtain ⟨Ao17, co17, eo17⟩ := Kd.R_slice HO_3.out
        subst eo17
        go_wp2
        go_ret
        exact ⟨by first | rfl | (simp [errW_none, errW_some] <;> rfl) | (simp [*, errW_none, errW_some] <;> rfl), by repeat (first | (with_reducible first | exact HB.out | apply below_alloc | apply pw_below_drewN | apply below_drew1) | exact HB.out)⟩

-- this session's own plain form
def pleachref01_Put.f (a0 : Int) : Option ByteArray := if 0 ≤ a0 ∧ a0 < 18446744073709551616 then some (M.sb (M.vb a0.toNat)) else none
theorem pleachref01_Put.one (d : Int) : strOfNums [d] = M.sb [UInt8.ofNat d.toNat] := rfl
theorem pleachref01_Put.loop (l : List Int) (hl : l.length ≤ 10) (hr : ∀ d ∈ l, 0 ≤ d ∧ d < 128) : ∀ (rest pre : List Int) (out : ByteArray), l = pre ++ rest → out.size = pre.length →
    ∃ k, pleachref01_Put_p.l0 k l out (pre.length : Int) = some (out ++ M.sb (M.venc rest)) := by
  intro rest
  induction rest with
  | nil =>
    intro pre out he ho
    refine ⟨1, ?_⟩
    simp only [pleachref01_Put_p.l0]
    rw [if_neg (by rw [he]; simp)]
    congr 1
    exact M.bs_inj (by rw [M.bs_append]; simp [M.venc, M.bs_sb])
  | cons d rest ih =>
    intro pre out he ho
    have hlen : l.length = pre.length + rest.length + 1 := by rw [he]; simp; omega
    have hd := hr d (by rw [he]; simp)
    have hrd : rd l (pre.length : Int) = d := by rw [rd, he]; simp
    have hw : wrap64 ((pre.length : Int) + 1) = ((pre.length + 1 : Nat) : Int) := by rw [M.wrap64_id (by omega) (by omega)]; omega
    have hsz : ∀ x, (strOfNums [x]).size = 1 := fun x => by rw [strOfNums_size]; rfl
    have hp : pre.length + 1 = (pre ++ [d]).length := by simp
    cases rest with
    | nil =>
      obtain ⟨k, hk⟩ := ih (pre ++ [d]) (out ++ M.sb [UInt8.ofNat d.toNat]) (by rw [he]; simp) (by rw [M.size_append, M.size_sb, ho]; simp)
      refine ⟨k + 1, ?_⟩
      have e : (rd l (pre.length : Int)) % 256 = d := by rw [hrd]; omega
      simp only [List.length_nil] at hlen
      simp only [pleachref01_Put_p.l0, Option.bind_some]
      rw [if_pos (by omega), if_pos (by omega), hw, if_neg (by omega), e, hsz, if_pos (by omega), pleachref01_Put.one, hp, hk]
      congr 1
      exact M.bs_inj (by simp [M.bs_append, M.bs_sb, M.venc])
    | cons e rest =>
      obtain ⟨k, hk⟩ := ih (pre ++ [d]) (out ++ M.sb [UInt8.ofNat (d.toNat + 128)]) (by rw [he]; simp) (by rw [M.size_append, M.size_sb, ho]; simp)
      refine ⟨k + 1, ?_⟩
      have e2 : (wrap64 ((rd l (pre.length : Int)) + 128)) % 256 = d + 128 := by rw [hrd, M.wrap64_id (by omega) (by omega)]; omega
      have e3 : (d + 128).toNat = d.toNat + 128 := by omega
      simp only [pleachref01_Put_p.l0, Option.bind_some]
      simp only [List.length_cons] at hlen
      rw [if_pos (by omega), if_pos (by omega), hw, if_pos (by omega), e2, hsz, if_pos (by omega), pleachref01_Put.one, e3, hp, hk]
      congr 1
      exact M.bs_inj (by simp [M.bs_append, M.bs_sb, M.venc_cons])
theorem pleachref01_Put.ev (a0 : Int) (r : ByteArray) (h : pleachref01_Put.f a0 = some r) : ∃ k, pleachref01_Put_p.f k a0 = some r := by
  unfold pleachref01_Put.f at h
  split at h
  · rename_i hh
    obtain rfl := Option.some.inj h
    obtain ⟨m, rfl⟩ := Int.eq_ofNat_of_zero_le hh.1
    obtain ⟨k, hk⟩ := pleachref01_Put.loop (M.vdig m) (by rw [M.vdig_length]; exact M.vb_le m (by omega)) (M.vdig_range m) (M.vdig m) [] (⟨#[]⟩ : ByteArray) rfl rfl
    refine ⟨k, ?_⟩
    unfold pleachref01_Put_p.f pleachref01_Digits.f
    rw [if_pos hh]
    simp only [Option.bind_some, Int.toNat_natCast]
    refine Eq.trans hk ?_
    congr 1
    exact M.bs_inj (by rw [M.bs_append, M.bs_nil, List.nil_append, M.bs_sb, M.bs_sb, M.venc_vdig])
  · cases h
theorem pleachref01_Put.calls (a0 : Int) (r : ByteArray) (w : World) (h : pleachref01_Put.f a0 = some r) :
    Calls Try.prog 17 #[.int .u64 a0] w fun e w' => e = .returned (.string r) ∧ Below w.heap.size w w' := by
  obtain ⟨k, hk⟩ := pleachref01_Put.ev _ _ h
  exact pleachref01_Put_p.calls (k := k) (w := w) (h := hk)

/-! ### pleachref01_Get_p: function 11 -/
mutual
def pleachref01_Get_p.j1 : Nat → ByteArray → Int → Option (Int × Int × Bool)
  | 0, _, _ => none
  | k + 1, x0, x5 => if x5 ≥ (x0.size : Int) then (pleachref01_Get_p.j2 k x0 x5 true) else (pleachref01_Get_p.j2 k x0 x5 (decide (x5 > 9)))
def pleachref01_Get_p.j2 : Nat → ByteArray → Int → Bool → Option (Int × Int × Bool)
  | 0, _, _, _ => none
  | k + 1, x0, x5, x27 => if x27 = true then (some (0, 0, false)) else (pleachref01_Get_p.l1 k x0 x5 0 x5)
def pleachref01_Get_p.l1 : Nat → ByteArray → Int → Int → Int → Option (Int × Int × Bool)
  | 0, _, _, _, _ => none
  | k + 1, x0, x5, x6, x7 => if x7 ≥ 0 then (if 0 ≤ x7 then (if x7 < (x0.size : Int) then (pleachref01_Get_p.l1 k x0 x5 (IntKind.u64.wrap ((IntKind.u64.wrap (x6 * 128)) + (Int.tmod (IntKind.u64.wrap (bt x0 x7)) 128))) (wrap64 (x7 - 1))) else (none)) else (none)) else ((pleachref01_Put.f x6).bind fun t131 => (if 0 ≤ (wrap64 (x5 + 1)) then (if (wrap64 (x5 + 1)) ≤ (x0.size : Int) then (if t131.toList = (x0.extract 0 ((wrap64 (x5 + 1)) : Int).toNat).toList then (some (x6, wrap64 (x5 + 1), true)) else (some (0, 0, false))) else (none)) else (none)))
def pleachref01_Get_p.l0 : Nat → ByteArray → Int → Option (Int × Int × Bool)
  | 0, _, _ => none
  | k + 1, x0, x5 => if x5 < (x0.size : Int) then (if 0 ≤ x5 then (if (bt x0 x5) ≥ 128 then (pleachref01_Get_p.l0 k x0 (wrap64 (x5 + 1))) else (pleachref01_Get_p.j1 k x0 x5)) else (none)) else (pleachref01_Get_p.j1 k x0 x5)
end
def pleachref01_Get_p.f (k : Nat) (a0 : ByteArray) : Option (Int × Int × Bool) := pleachref01_Get_p.l0 k a0 0
theorem pleachref01_Get_p.mono_l : ∀ k, (∀ y0 y1, LeO (pleachref01_Get_p.j1 k y0 y1) (pleachref01_Get_p.j1 (k + 1) y0 y1)) ∧ (∀ y0 y1 y2, LeO (pleachref01_Get_p.j2 k y0 y1 y2) (pleachref01_Get_p.j2 (k + 1) y0 y1 y2)) ∧ (∀ y0 y1 y2 y3, LeO (pleachref01_Get_p.l1 k y0 y1 y2 y3) (pleachref01_Get_p.l1 (k + 1) y0 y1 y2 y3)) ∧ (∀ y0 y1, LeO (pleachref01_Get_p.l0 k y0 y1) (pleachref01_Get_p.l0 (k + 1) y0 y1))
  | 0 => ⟨fun _ _ r h => by simp [pleachref01_Get_p.j1] at h, fun _ _ _ r h => by simp [pleachref01_Get_p.j2] at h, fun _ _ _ _ r h => by simp [pleachref01_Get_p.l1] at h, fun _ _ r h => by simp [pleachref01_Get_p.l0] at h⟩
  | k + 1 => by
    obtain ⟨ih0, ih1, ih2, ih3⟩ := pleachref01_Get_p.mono_l k
    refine ⟨?_, ?_, ?_, ?_⟩
    · intro y0 y1
      unfold pleachref01_Get_p.j1
      repeat' first
      | (with_reducible exact ih0 _ _)
      | (with_reducible exact ih1 _ _ _)
      | (with_reducible exact ih2 _ _ _ _)
      | (with_reducible exact ih3 _ _)
      | (with_reducible exact LeO.refl _)
      | (with_reducible exact LeO.none _)
      | (with_reducible refine LeO.ite ?_ ?_)
      | (with_reducible refine LeO.bind ?_ (fun _ => ?_))
      | exact ih0 _ _
      | exact ih1 _ _ _
      | exact ih2 _ _ _ _
      | exact ih3 _ _
      | exact LeO.none _
      | refine LeO.ite ?_ ?_
      | refine LeO.bind ?_ (fun _ => ?_)
    · intro y0 y1 y2
      unfold pleachref01_Get_p.j2
      repeat' first
      | (with_reducible exact ih0 _ _)
      | (with_reducible exact ih1 _ _ _)
      | (with_reducible exact ih2 _ _ _ _)
      | (with_reducible exact ih3 _ _)
      | (with_reducible exact LeO.refl _)
      | (with_reducible exact LeO.none _)
      | (with_reducible refine LeO.ite ?_ ?_)
      | (with_reducible refine LeO.bind ?_ (fun _ => ?_))
      | exact ih0 _ _
      | exact ih1 _ _ _
      | exact ih2 _ _ _ _
      | exact ih3 _ _
      | exact LeO.none _
      | refine LeO.ite ?_ ?_
      | refine LeO.bind ?_ (fun _ => ?_)
    · intro y0 y1 y2 y3
      unfold pleachref01_Get_p.l1
      repeat' first
      | (with_reducible exact ih0 _ _)
      | (with_reducible exact ih1 _ _ _)
      | (with_reducible exact ih2 _ _ _ _)
      | (with_reducible exact ih3 _ _)
      | (with_reducible exact LeO.refl _)
      | (with_reducible exact LeO.none _)
      | (with_reducible refine LeO.ite ?_ ?_)
      | (with_reducible refine LeO.bind ?_ (fun _ => ?_))
      | exact ih0 _ _
      | exact ih1 _ _ _
      | exact ih2 _ _ _ _
      | exact ih3 _ _
      | exact LeO.none _
      | refine LeO.ite ?_ ?_
      | refine LeO.bind ?_ (fun _ => ?_)
    · intro y0 y1
      unfold pleachref01_Get_p.l0
      repeat' first
      | (with_reducible exact ih0 _ _)
      | (with_reducible exact ih1 _ _ _)
      | (with_reducible exact ih2 _ _ _ _)
      | (with_reducible exact ih3 _ _)
      | (with_reducible exact LeO.refl _)
      | (with_reducible exact LeO.none _)
      | (with_reducible refine LeO.ite ?_ ?_)
      | (with_reducible refine LeO.bind ?_ (fun _ => ?_))
      | exact ih0 _ _
      | exact ih1 _ _ _
      | exact ih2 _ _ _ _
      | exact ih3 _ _
      | exact LeO.none _
      | refine LeO.ite ?_ ?_
      | refine LeO.bind ?_ (fun _ => ?_)
theorem pleachref01_Get_p.mono : ∀ a0 k, LeO (pleachref01_Get_p.f k a0) (pleachref01_Get_p.f (k + 1) a0) := by
  intro a0 k
  obtain ⟨ih0, ih1, ih2, ih3⟩ := pleachref01_Get_p.mono_l k
  unfold pleachref01_Get_p.f
  repeat' first
      | (with_reducible exact ih0 _ _)
      | (with_reducible exact ih1 _ _ _)
      | (with_reducible exact ih2 _ _ _ _)
      | (with_reducible exact ih3 _ _)
      | (with_reducible exact LeO.refl _)
      | (with_reducible exact LeO.none _)
      | (with_reducible refine LeO.ite ?_ ?_)
      | (with_reducible refine LeO.bind ?_ (fun _ => ?_))
      | exact ih0 _ _
      | exact ih1 _ _ _
      | exact ih2 _ _ _ _
      | exact ih3 _ _
      | exact LeO.none _
      | refine LeO.ite ?_ ?_
      | refine LeO.bind ?_ (fun _ => ?_)
set_option maxHeartbeats 8000000 in
set_option maxRecDepth 100000 in
theorem pleachref01_Get_p.calls (k : Nat) (a0 : ByteArray) (r1 : Int) (r2 : Int) (r3 : Bool) (w : World) (h : pleachref01_Get_p.f k a0 = some (r1, r2, r3)) :
    Calls Try.prog 11 #[.string a0] w fun e w' => e = .returned (.tuple #[.int .u64 r1, .int .i64 r2, .bool r3]) ∧ Below w.heap.size w w' := by
  have HB := Aside0.mk (Below.refl w.heap.size w)
  have H : (pleachref01_Get_p.l0 k a0 0) = some (r1, r2, r3) := h
  clear h
  have HC2 := Aside0.mk H
  clear H
  go_enter Try.func11, Try.ntmps11
  go_upto_block 0 with (fail)
  go_cut [5] (fun v5 wc => ∃ (kq : Nat) (x5_1 : Int), v5 = .int .i64 x5_1 ∧ Aside0 (pleachref01_Get_p.j1 kq a0 x5_1 = some (r1, r2, r3)) ∧ Aside0 (kq ≤ k) ∧ Aside0 (Below w.heap.size w wc))
  case first =>
    have H := HC2.out
    clear HC2
    have H' := Aside0.mk H
    clear H
    go_wp2
    go_loopg [5] k (fun kq v5 w' => ∃ (x5_1 : Int), v5 = .int .i64 x5_1 ∧ Aside0 (pleachref01_Get_p.l0 kq a0 x5_1 = some (r1, r2, r3)) ∧ Aside0 (kq ≤ k) ∧ Aside0 (Below w.heap.size w w'))
    case atStart => exact ⟨(0), (by first | rfl | (simp; done) | (simp [*]; done)), H', ⟨Nat.le_refl _⟩, ⟨by repeat (first | (with_reducible first | exact HB.out | apply below_alloc | apply pw_below_drewN | apply below_drew1) | exact HB.out)⟩⟩
    case round =>
      clear H'
      try clear c1
      try clear p2
      obtain ⟨x5_1, rfl, HA, HK1, HB⟩ := hrel
      cases gk with
      | zero => exact absurd HA.out (by simp [pleachref01_Get_p.l0])
      | succ k1 =>
        have H := HA.out
        clear HA
        simp only [pleachref01_Get_p.l0] at H
        by_cases c3 : x5_1 < (a0.size : Int)
        · rw [if_pos c3] at H
          have c3b0 : decide (x5_1 < (a0.size : Int)) = true := decide_eq_true c3
          clear c3
          (first | rw [c3b0] | (simp only [i64_w, i32_w]; rw [c3b0]) | skip)
          by_cases c4 : 0 ≤ x5_1
          · rw [if_pos c4] at H
            have c4b0 : decide (0 ≤ x5_1) = true := decide_eq_true c4
            clear c4
            by_cases c6 : (bt a0 x5_1) ≥ 128
            · rw [if_pos c6] at H
              have c6b0 : decide (128 ≤ (bt a0 x5_1)) = true := decide_eq_true c6
              clear c6
              have H' := Aside0.mk H
              clear H
              have p5 : 0 ≤ (x5_1 : Int) := of_decide_eq_true (by first | (with_reducible assumption) | assumption)
              have q5 : x5_1 < (a0.size : Int) := of_decide_eq_true (by first | (with_reducible assumption) | assumption)
              have hx5 := bt_at a0 x5_1
              replace p5 := eq_true p5
              replace q5 := eq_true q5
              go_wp2
              go_roundg k1
              case measure => have := HK1.out; omega
              case rel => exact ⟨(wrap64 (x5_1 + 1)), (by first | rfl | (simp; done) | (simp [*]; done)), H', ⟨by have := HK1.out; omega⟩, ⟨by repeat (first | (with_reducible first | exact HB.out | apply below_alloc | apply pw_below_drewN | apply below_drew1) | exact HB.out)⟩⟩
            · rw [if_neg c6] at H
              have c6b0 : decide (128 ≤ (bt a0 x5_1)) = false := decide_eq_false c6
              clear c6
              have H' := Aside0.mk H
              clear H
              have p5 : 0 ≤ (x5_1 : Int) := of_decide_eq_true (by first | (with_reducible assumption) | assumption)
              have q5 : x5_1 < (a0.size : Int) := of_decide_eq_true (by first | (with_reducible assumption) | assumption)
              have hx5 := bt_at a0 x5_1
              replace p5 := eq_true p5
              replace q5 := eq_true q5
              go_wp2
              go_meet
              case rel => exact ⟨_, (x5_1), (by first | rfl | (simp; done) | (simp [*]; done)), H', ⟨by have := HK1.out; first | omega | exact Nat.le_refl _⟩, ⟨by repeat (first | (with_reducible first | exact HB.out | apply below_alloc | apply pw_below_drewN | apply below_drew1) | exact HB.out)⟩⟩
          · rw [if_neg c4] at H
            exact absurd H (by simp)
        · rw [if_neg c3] at H
          have c3b0 : decide (x5_1 < (a0.size : Int)) = false := decide_eq_false c3
          clear c3
          (first | rw [c3b0] | (simp only [i64_w, i32_w]; rw [c3b0]) | skip)
          have H' := Aside0.mk H
          clear H
          go_wp2
          go_meet
          case rel => exact ⟨_, (x5_1), (by first | rfl | (simp; done) | (simp [*]; done)), H', ⟨by have := HK1.out; first | omega | exact Nat.le_refl _⟩, ⟨by repeat (first | (with_reducible first | exact HB.out | apply below_alloc | apply pw_below_drewN | apply below_drew1) | exact HB.out)⟩⟩
  case rest =>
    clear HC2
    try clear c1
    try clear p2
    try clear c3
    try clear c3b0
    try clear c4
    try clear c4b0
    try clear p5
    try clear q5
    try clear hx5
    try clear c6
    try clear c6b0
    try clear p6
    try clear p2
    try clear p5
    try clear q5
    obtain ⟨kq, x5_1, rfl, HA, HJ1, HB⟩ := hcut
    cases kq with
    | zero => exact absurd HA.out (by simp [pleachref01_Get_p.j1])
    | succ kj1 =>
      have H := HA.out
      clear HA
      simp only [pleachref01_Get_p.j1] at H
      have HC7 := Aside0.mk H
      clear H
      go_upto_region 4 with (fail)
      go_cut [27] (fun v27 wc => ∃ (kq : Nat) (x27_6 : Bool), v27 = .bool x27_6 ∧ Aside0 (pleachref01_Get_p.j2 kq a0 x5_1 x27_6 = some (r1, r2, r3)) ∧ Aside0 (kq ≤ kj1) ∧ Aside0 (Below w.heap.size w wc))
      case first =>
        have H := HC7.out
        clear HC7
        by_cases c8 : x5_1 ≥ (a0.size : Int)
        · rw [if_pos c8] at H
          have c8b0 : decide ((a0.size : Int) ≤ x5_1) = true := decide_eq_true c8
          clear c8
          (first | rw [c8b0] | (simp only [i64_w, i32_w]; rw [c8b0]) | skip)
          have H' := Aside0.mk H
          clear H
          go_wp2
          go_meet
          case rel => exact ⟨_, (true), (by first | rfl | (simp; done) | (simp [*]; done)), H', ⟨by have := HJ1.out; first | omega | exact Nat.le_refl _⟩, ⟨by repeat (first | (with_reducible first | exact HB.out | apply below_alloc | apply pw_below_drewN | apply below_drew1) | exact HB.out)⟩⟩
        · rw [if_neg c8] at H
          have c8b0 : decide ((a0.size : Int) ≤ x5_1) = false := decide_eq_false c8
          clear c8
          (first | rw [c8b0] | (simp only [i64_w, i32_w]; rw [c8b0]) | skip)
          have H' := Aside0.mk H
          clear H
          go_wp2
          go_meet
          case rel => exact ⟨_, (decide (x5_1 > 9)), (by first | rfl | (simp; done) | (simp [*]; done)), H', ⟨by have := HJ1.out; first | omega | exact Nat.le_refl _⟩, ⟨by repeat (first | (with_reducible first | exact HB.out | apply below_alloc | apply pw_below_drewN | apply below_drew1) | exact HB.out)⟩⟩
      case rest =>
        clear HC7
        try clear c1
        try clear p2
        try clear c3
        try clear c3b0
        try clear c4
        try clear c4b0
        try clear p5
        try clear q5
        try clear hx5
        try clear c6
        try clear c6b0
        try clear p6
        try clear c8
        try clear c8b0
        try clear p2
        try clear p5
        try clear p6
        try clear q5
        obtain ⟨kq, x27_6, rfl, HA, HJ6, HB⟩ := hcut
        cases kq with
        | zero => exact absurd HA.out (by simp [pleachref01_Get_p.j2])
        | succ kj6 =>
          have H := HA.out
          clear HA
          simp only [pleachref01_Get_p.j2] at H
          by_cases c9 : x27_6 = true
          · subst c9
            have H1 : (some (0, 0, false)) = some (r1, r2, r3) := by rw [if_pos rfl] at H; exact H
            clear H
            have H := H1
            clear H1
            simp only [Option.some.injEq, Prod.mk.injEq] at H
            obtain ⟨rfl, rfl, rfl⟩ := H
            go_wp2
            go_ret3
            exact ⟨by first | rfl | (simp [errW_none, errW_some] <;> rfl) | (simp [*, errW_none, errW_some] <;> rfl), by repeat (first | (with_reducible first | exact HB.out | apply below_alloc | apply pw_below_drewN | apply below_drew1) | exact HB.out)⟩
          · replace c9 := Bool.eq_false_iff.mpr c9
            subst c9
            have H1 : (pleachref01_Get_p.l1 kj6 a0 x5_1 0 x5_1) = some (r1, r2, r3) := by rw [if_neg (show ¬ (false = true) by decide)] at H; exact H
            clear H
            have H := H1
            clear H1
            have H' := Aside0.mk H
            clear H
            go_wp2
            go_loopg [6, 7] kj6 (fun kq v6 v7 w' => ∃ (x6_3 : Int) (x7_3 : Int), v6 = .int .u64 x6_3 ∧ v7 = .int .i64 x7_3 ∧ Aside0 (pleachref01_Get_p.l1 kq a0 x5_1 x6_3 x7_3 = some (r1, r2, r3)) ∧ Aside0 (kq ≤ kj6) ∧ Aside0 (Below w.heap.size w w'))
            case atStart => exact ⟨(0), (x5_1), (by first | rfl | (simp; done) | (simp [*]; done)), (by first | rfl | (simp; done) | (simp [*]; done)), H', ⟨Nat.le_refl _⟩, ⟨by repeat (first | (with_reducible first | exact HB.out | apply below_alloc | apply pw_below_drewN | apply below_drew1) | exact HB.out)⟩⟩
            case round =>
              clear H'
              try clear c1
              try clear p2
              try clear c3
              try clear c3b0
              try clear c4
              try clear c4b0
              try clear p5
              try clear q5
              try clear hx5
              try clear c6
              try clear c6b0
              try clear p6
              try clear c8
              try clear c8b0
              try clear c9
              try clear p2
              try clear p5
              try clear p6
              try clear q5
              obtain ⟨x6_3, x7_3, rfl, rfl, HA, HK3, HB⟩ := hrel
              cases gk with
              | zero => exact absurd HA.out (by simp [pleachref01_Get_p.l1])
              | succ k3 =>
                have H := HA.out
                clear HA
                simp only [pleachref01_Get_p.l1] at H
                by_cases c10 : x7_3 ≥ 0
                · rw [if_pos c10] at H
                  have c10b0 : decide (0 ≤ x7_3) = true := decide_eq_true c10
                  clear c10
                  by_cases c11 : 0 ≤ x7_3
                  · rw [if_pos c11] at H
                    have c11b0 : decide (0 ≤ x7_3) = true := decide_eq_true c11
                    clear c11
                    by_cases c12 : x7_3 < (a0.size : Int)
                    · rw [if_pos c12] at H
                      have c12b0 : decide (x7_3 < (a0.size : Int)) = true := decide_eq_true c12
                      clear c12
                      have H' := Aside0.mk H
                      clear H
                      have p13 : 0 ≤ (x7_3 : Int) := of_decide_eq_true (by first | (with_reducible assumption) | assumption)
                      have q13 : x7_3 < (a0.size : Int) := of_decide_eq_true (by first | (with_reducible assumption) | assumption)
                      have hx13 := bt_at a0 x7_3
                      replace p13 := eq_true p13
                      replace q13 := eq_true q13
                      go_wp2
                      go_roundg k3
                      case measure => have := HJ1.out; have := HJ6.out; have := HK3.out; omega
                      case rel => exact ⟨(IntKind.u64.wrap ((IntKind.u64.wrap (x6_3 * 128)) + (Int.tmod (IntKind.u64.wrap (bt a0 x7_3)) 128))), (wrap64 (x7_3 - 1)), (by first | rfl | (simp; done) | (simp [*]; done)), (by first | rfl | (simp; done) | (simp [*]; done)), H', ⟨by have := HJ1.out; have := HJ6.out; have := HK3.out; omega⟩, ⟨by repeat (first | (with_reducible first | exact HB.out | apply below_alloc | apply pw_below_drewN | apply below_drew1) | exact HB.out)⟩⟩
                    · rw [if_neg c12] at H
                      exact absurd H (by simp)
                  · rw [if_neg c11] at H
                    exact absurd H (by simp)
                · rw [if_neg c10] at H
                  have c10b0 : decide (0 ≤ x7_3) = false := decide_eq_false c10
                  clear c10
                  replace H := Option.bind_eq_some_iff.mp H
                  obtain ⟨t131, A140, H⟩ := H
                  replace H : (if 0 ≤ (wrap64 (x5_1 + 1)) then (if (wrap64 (x5_1 + 1)) ≤ (a0.size : Int) then (if t131.toList = (a0.extract 0 ((wrap64 (x5_1 + 1)) : Int).toNat).toList then (some (x6_3, wrap64 (x5_1 + 1), true)) else (some (0, 0, false))) else (none)) else (none)) = some (r1, r2, r3) := H
                  have A14 := Aside0.mk A140
                  clear A140
                  obtain ⟨ji15, hji15⟩ : ∃ j_ : Int, (wrap64 (x5_1 + 1)) = j_ := ⟨_, rfl⟩
                  replace H : (if 0 ≤ (ji15) then (if (ji15) ≤ (a0.size : Int) then (if t131.toList = (a0.extract 0 ((ji15) : Int).toNat).toList then (some (x6_3, ji15, true)) else (some (0, 0, false))) else (none)) else (none)) = some (r1, r2, r3) := by first | (rw [hji15] at H; exact H) | (simp only [hji15] at H ⊢; exact H)
                  (try rw [hji15] at A14)
                  have hji15w : (IntKind.i64.wrap (x5_1 + 1)) = ji15 := (i64_w _).trans hji15
                  by_cases c16 : 0 ≤ (ji15)
                  · rw [if_pos c16] at H
                    have c16b0 := eq_true c16
                    have c16b1 : decide (0 ≤ (ji15)) = true := decide_eq_true c16
                    clear c16
                    by_cases c17 : (ji15) ≤ (a0.size : Int)
                    · rw [if_pos c17] at H
                      have c17b0 := eq_true c17
                      have c17b1 : decide ((ji15) ≤ (a0.size : Int)) = true := decide_eq_true c17
                      clear c17
                      by_cases c18 : t131.toList = (a0.extract 0 ((ji15) : Int).toNat).toList
                      · rw [if_pos c18] at H
                        have c18b0 : (t131.toList == (a0.extract 0 ((ji15) : Int).toNat).toList) = true := beq_iff_eq.mpr c18
                        have c18b1 : (t131.toList != (a0.extract 0 ((ji15) : Int).toNat).toList) = false := bne_eq_false_iff_eq.mpr c18
                        clear c18
                        simp only [Option.some.injEq, Prod.mk.injEq] at H
                        obtain ⟨rfl, rfl, rfl⟩ := H
                        try go_wp2
                        have n0_ := Aside0.mk (below_drew1 HB.out)
                        clear HB
                        have HB := n0_
                        clear n0_
                        refine start_ (n := 7) (S := fun w' => True) (ds := []) #[false, false, false, false, false, false, false] (by kernel_rfl) rfl rfl trivial (fun hHeld => ?_)
                        generalize wr.drew = w19 at HB hHeld ⊢
                        refine pure_ (i := 0) (N := some 41) (v := ?_) (a' := ?_) #[true, false, false, false, false, false, false] rfl rfl (by kernel_rfl) (fun _ _ _ h => h) (Or.inl ⟨by rfl, ?_⟩) ?_ ?_
                        rotate_left
                        · intro w'
                          go_simp
                          with_reducible rfl
                        rotate_left
                        · simp only [Act.put, List.setIfInBounds_toArray, List.set_cons_zero, List.set_cons_succ, i64_w, i32_w]
                          rfl
                        refine pure_ (i := 2) (N := some 43) (v := ?_) (a' := ?_) #[true, false, true, false, false, false, false] rfl rfl (by kernel_rfl) (fun _ _ _ h => h) (Or.inl ⟨by rfl, ?_⟩) ?_ ?_
                        rotate_left
                        · intro w'
                          go_simp
                          with_reducible rfl
                        rotate_left
                        · simp only [Act.put, List.setIfInBounds_toArray, List.set_cons_zero, List.set_cons_succ, i64_w, i32_w]
                          rfl
                        refine pure_ (i := 3) (N := some 44) (v := ?_) (a' := ?_) #[true, false, true, true, false, false, false] rfl rfl (by kernel_rfl) (fun _ _ _ h => h) (Or.inl ⟨by rfl, ?_⟩) ?_ ?_
                        rotate_left
                        · intro w'
                          go_simp
                          with_reducible rfl
                        rotate_left
                        · simp only [Act.put, List.setIfInBounds_toArray, List.set_cons_zero, List.set_cons_succ, i64_w, i32_w]
                          rfl
                        refine pure_ (i := 4) (N := some 45) (v := ?_) (a' := ?_) #[true, false, true, true, true, false, false] rfl rfl (by kernel_rfl) (fun _ _ _ h => h) (Or.inl ⟨by rfl, ?_⟩) ?_ ?_
                        rotate_left
                        · intro w'
                          go_simp
                          with_reducible rfl
                        rotate_left
                        · simp only [Act.put, List.setIfInBounds_toArray, List.set_cons_zero, List.set_cons_succ, i64_w, i32_w]
                          rfl
                        refine pure_ (i := 5) (N := some 46) (v := ?_) (a' := ?_) #[true, false, true, true, true, true, false] rfl rfl (by kernel_rfl) (fun _ _ _ h => h) (Or.inl ⟨by rfl, ?_⟩) ?_ ?_
                        rotate_left
                        · intro w'
                          go_simp
                          with_reducible rfl
                        rotate_left
                        · simp only [Act.put, List.setIfInBounds_toArray, List.set_cons_zero, List.set_cons_succ, i64_w, i32_w]
                          rfl
                        refine one_ (i := 1) (N := some 42) #[true, true, true, true, true, true, false] rfl rfl (by kernel_rfl) (by decide) (fun K hK => ?_)
                        refine goes_ Try.func17 (by kernel_rfl) rfl #[.int .u64 x6_3] (by rfl) rfl rfl (by (try simp only [List.map_toArray, List.map_cons, List.map_nil]); first | done | rfl | (simp only [List.length_drop, List.length_take]; rfl)) ?_
                        with_reducible refine (pleachref01_Put.calls x6_3 t131 _ A14.out).mono ?_
                        rintro e w20 ⟨rfl, hb⟩
                        refine ⟨_, rfl, ?_⟩
                        have n0_ := Aside0.mk (below_step (by repeat (first | (with_reducible first | exact HB.out | apply below_alloc | apply pw_below_drewN | apply below_drew1) | exact HB.out)) hb)
                        clear HB
                        have HB := n0_
                        clear n0_
                        (try clear hb)
                        (try clear hb2)
                        (try clear hk)
                        (try clear hi)
                        refine hK.out _ _ trivial (fun hHeld => ?_)
                        clear hK K
                        refine norm_ (a' := ?_) ?_ ?_
                        rotate_left
                        · show Act.put _ (some 42) _ = _
                          simp only [Act.put, List.setIfInBounds_toArray, List.set_cons_zero, List.set_cons_succ, i64_w, i32_w]
                          rfl
                        refine pure_ (i := 6) (N := some 47) (v := ?_) (a' := ?_) #[true, true, true, true, true, true, true] rfl rfl (by kernel_rfl) (fun _ _ _ h => h) (Or.inl ⟨by rfl, ?_⟩) ?_ ?_
                        rotate_left
                        · intro w'
                          go_simp
                          with_reducible rfl
                        rotate_left
                        · simp only [Act.put, List.setIfInBounds_toArray, List.set_cons_zero, List.set_cons_succ, i64_w, i32_w]
                          rfl
                        refine done_ (by kernel_rfl) ?_
                        try go_wp2
                        go_ret3
                        exact ⟨by first | rfl | (simp [errW_none, errW_some] <;> rfl) | (simp only [← hji15]; first | rfl | (simp [errW_none, errW_some] <;> rfl)) | (simp [*, errW_none, errW_some] <;> rfl), by repeat (first | (with_reducible first | exact HB.out | apply below_alloc | apply pw_below_drewN | apply below_drew1) | exact HB.out)⟩
                      · rw [if_neg c18] at H
                        have c18b0 : (t131.toList == (a0.extract 0 ((ji15) : Int).toNat).toList) = false := beq_eq_false_iff_ne.mpr c18
                        have c18b1 : (t131.toList != (a0.extract 0 ((ji15) : Int).toNat).toList) = true := bne_iff_ne.mpr c18
                        simp only [Option.some.injEq, Prod.mk.injEq] at H
                        obtain ⟨rfl, rfl, rfl⟩ := H
                        try go_wp2
                        have n0_ := Aside0.mk (below_drew1 HB.out)
                        clear HB
                        have HB := n0_
                        clear n0_
                        refine start_ (n := 7) (S := fun w' => True) (ds := []) #[false, false, false, false, false, false, false] (by kernel_rfl) rfl rfl trivial (fun hHeld => ?_)
                        generalize wr.drew = w21 at HB hHeld ⊢
                        refine pure_ (i := 0) (N := some 41) (v := ?_) (a' := ?_) #[true, false, false, false, false, false, false] rfl rfl (by kernel_rfl) (fun _ _ _ h => h) (Or.inl ⟨by rfl, ?_⟩) ?_ ?_
                        rotate_left
                        · intro w'
                          go_simp
                          with_reducible rfl
                        rotate_left
                        · simp only [Act.put, List.setIfInBounds_toArray, List.set_cons_zero, List.set_cons_succ, i64_w, i32_w]
                          rfl
                        refine pure_ (i := 2) (N := some 43) (v := ?_) (a' := ?_) #[true, false, true, false, false, false, false] rfl rfl (by kernel_rfl) (fun _ _ _ h => h) (Or.inl ⟨by rfl, ?_⟩) ?_ ?_
                        rotate_left
                        · intro w'
                          go_simp
                          with_reducible rfl
                        rotate_left
                        · simp only [Act.put, List.setIfInBounds_toArray, List.set_cons_zero, List.set_cons_succ, i64_w, i32_w]
                          rfl
                        refine pure_ (i := 3) (N := some 44) (v := ?_) (a' := ?_) #[true, false, true, true, false, false, false] rfl rfl (by kernel_rfl) (fun _ _ _ h => h) (Or.inl ⟨by rfl, ?_⟩) ?_ ?_
                        rotate_left
                        · intro w'
                          go_simp
                          with_reducible rfl
                        rotate_left
                        · simp only [Act.put, List.setIfInBounds_toArray, List.set_cons_zero, List.set_cons_succ, i64_w, i32_w]
                          rfl
                        refine pure_ (i := 4) (N := some 45) (v := ?_) (a' := ?_) #[true, false, true, true, true, false, false] rfl rfl (by kernel_rfl) (fun _ _ _ h => h) (Or.inl ⟨by rfl, ?_⟩) ?_ ?_
                        rotate_left
                        · intro w'
                          go_simp
                          with_reducible rfl
                        rotate_left
                        · simp only [Act.put, List.setIfInBounds_toArray, List.set_cons_zero, List.set_cons_succ, i64_w, i32_w]
                          rfl
                        refine pure_ (i := 5) (N := some 46) (v := ?_) (a' := ?_) #[true, false, true, true, true, true, false] rfl rfl (by kernel_rfl) (fun _ _ _ h => h) (Or.inl ⟨by rfl, ?_⟩) ?_ ?_
                        rotate_left
                        · intro w'
                          go_simp
                          with_reducible rfl
                        rotate_left
                        · simp only [Act.put, List.setIfInBounds_toArray, List.set_cons_zero, List.set_cons_succ, i64_w, i32_w]
                          rfl
                        refine one_ (i := 1) (N := some 42) #[true, true, true, true, true, true, false] rfl rfl (by kernel_rfl) (by decide) (fun K hK => ?_)
                        refine goes_ Try.func17 (by kernel_rfl) rfl #[.int .u64 x6_3] (by rfl) rfl rfl (by (try simp only [List.map_toArray, List.map_cons, List.map_nil]); first | done | rfl | (simp only [List.length_drop, List.length_take]; rfl)) ?_
                        with_reducible refine (pleachref01_Put.calls x6_3 t131 _ A14.out).mono ?_
                        rintro e w22 ⟨rfl, hb⟩
                        refine ⟨_, rfl, ?_⟩
                        have n0_ := Aside0.mk (below_step (by repeat (first | (with_reducible first | exact HB.out | apply below_alloc | apply pw_below_drewN | apply below_drew1) | exact HB.out)) hb)
                        clear HB
                        have HB := n0_
                        clear n0_
                        (try clear hb)
                        (try clear hb2)
                        (try clear hk)
                        (try clear hi)
                        refine hK.out _ _ trivial (fun hHeld => ?_)
                        clear hK K
                        refine norm_ (a' := ?_) ?_ ?_
                        rotate_left
                        · show Act.put _ (some 42) _ = _
                          simp only [Act.put, List.setIfInBounds_toArray, List.set_cons_zero, List.set_cons_succ, i64_w, i32_w]
                          rfl
                        refine pure_ (i := 6) (N := some 47) (v := ?_) (a' := ?_) #[true, true, true, true, true, true, true] rfl rfl (by kernel_rfl) (fun _ _ _ h => h) (Or.inl ⟨by rfl, ?_⟩) ?_ ?_
                        rotate_left
                        · intro w'
                          go_simp
                          with_reducible rfl
                        rotate_left
                        · simp only [Act.put, List.setIfInBounds_toArray, List.set_cons_zero, List.set_cons_succ, i64_w, i32_w]
                          rfl
                        refine done_ (by kernel_rfl) ?_
                        try go_wp2
                        go_ret3
                        exact ⟨by first | rfl | (simp [errW_none, errW_some] <;> rfl) | (simp only [← hji15]; first | rfl | (simp [errW_none, errW_some] <;> rfl)) | (simp [*, errW_none, errW_some] <;> rfl), by repeat (first | (with_reducible first | exact HB.out | apply below_alloc | apply pw_below_drewN | apply below_drew1) | exact HB.out)⟩
                    · rw [if_neg c17] at H
                      exact absurd H (by simp)
                  · rw [if_neg c16] at H
                    exact absurd H (by simp)

-- this session's own plain form
def pleachref01_Get.f (a0 : ByteArray) : Option (Int × Int × Bool) := if a0.size ≤ 9223372036854775806 then some (M.vget a0) else none
theorem pleachref01_Get.end_ (s : ByteArray) (hs : s.size ≤ 9223372036854775806) (j d : Nat) : ∀ i, i ≤ s.size → M.lead ((M.bs s).drop i) = d →
    pleachref01_Get_p.l0 (d + 1 + j) s (i : Int) = pleachref01_Get_p.j1 j s ((i + d : Nat) : Int) := by
  induction d with
  | zero =>
    intro i hi hd
    rw [show 0 + 1 + j = j + 1 from by omega]
    simp only [pleachref01_Get_p.l0]
    by_cases hlt : i < s.size
    · have hl : i < (M.bs s).length := by rw [M.bs_length]; exact hlt
      have hb := M.bt_bs s i hl
      rw [List.drop_eq_getElem_cons hl] at hd
      have hc : ((M.bs s)[i]).toNat < 128 := by
        by_cases h : ((M.bs s)[i]).toNat < 128
        · exact h
        · rw [M.lead_high h] at hd; omega
      rw [if_pos (by omega), if_pos (by omega), hb, if_neg (by omega)]; rfl
    · rw [if_neg (by omega)]; rfl
  | succ d ih =>
    intro i hi hd
    by_cases hlt : i < s.size
    · have hl : i < (M.bs s).length := by rw [M.bs_length]; exact hlt
      have hb := M.bt_bs s i hl
      rw [List.drop_eq_getElem_cons hl] at hd
      have hc : ¬ ((M.bs s)[i]).toNat < 128 := fun h => by rw [M.lead_low h] at hd; omega
      rw [M.lead_high hc] at hd
      have hw : wrap64 ((i : Int) + 1) = ((i + 1 : Nat) : Int) := by rw [M.wrap64_id (by omega) (by omega)]; omega
      rw [show d + 1 + 1 + j = (d + 1 + j) + 1 from by omega]
      simp only [pleachref01_Get_p.l0]
      rw [if_pos (by omega), if_pos (by omega), hb, if_pos (by omega), hw, ih (i + 1) (by omega) (by omega)]
      congr 2; omega
    · rw [List.drop_of_length_le (by rw [M.bs_length]; omega)] at hd
      cases hd
theorem pleachref01_Get.fold (s : ByteArray) (e : Nat) (hs : s.size ≤ 9223372036854775806) (he : e < s.size) (j : Nat) : ∀ i, i ≤ e + 1 →
    pleachref01_Get_p.l1 (i + j) s (e : Int) ((M.vval (((M.bs s).take (e + 1)).drop i) % 18446744073709551616 : Nat) : Int) ((i : Int) - 1) =
    pleachref01_Get_p.l1 j s (e : Int) ((M.vval ((M.bs s).take (e + 1)) % 18446744073709551616 : Nat) : Int) (-1) := by
  intro i
  induction i with
  | zero => intro _; simp
  | succ i ih =>
    intro hi
    have hl : i < (M.bs s).length := by rw [M.bs_length]; omega
    have hlt : i < ((M.bs s).take (e + 1)).length := by rw [List.length_take, M.bs_length]; omega
    have hb := M.bt_bs s i hl
    have hc := ((M.bs s)[i]).toNat_lt
    have hd : M.vval (((M.bs s).take (e + 1)).drop i) = ((M.bs s)[i]).toNat % 128 + 128 * M.vval (((M.bs s).take (e + 1)).drop (i + 1)) := by
      rw [List.drop_eq_getElem_cons hlt, M.vval, List.getElem_take]
    rw [show i + 1 + j = (i + j) + 1 from by omega]
    simp only [pleachref01_Get_p.l1]
    have hx : ((i + 1 : Nat) : Int) - 1 = (i : Int) := by omega
    rw [hx, if_pos (by omega), if_pos (by omega), if_pos (by omega), hb]
    have hw : wrap64 ((i : Int) - 1) = (i : Int) - 1 := M.wrap64_id (by omega) (by omega)
    have hv : IntKind.u64.wrap ((IntKind.u64.wrap (((M.vval (((M.bs s).take (e + 1)).drop (i + 1)) % 18446744073709551616 : Nat) : Int) * 128)) + (Int.tmod (IntKind.u64.wrap (((M.bs s)[i]).toNat : Int)) 128)) = ((M.vval (((M.bs s).take (e + 1)).drop i) % 18446744073709551616 : Nat) : Int) := by
      rw [hd, M.u64_id (i := (((M.bs s)[i]).toNat : Int)) (by omega) (by omega), Int.tmod_eq_emod_of_nonneg (by omega), M.u64_wrap, M.u64_wrap]
      omega
    rw [hw, hv]
    exact ih (by omega)
theorem pleachref01_Get.last_ (s : ByteArray) (e v j : Nat) (p : ByteArray) (hp : pleachref01_Put.f (v : Int) = some p) (he : e < s.size) (hs : s.size ≤ 9223372036854775806) :
    pleachref01_Get_p.l1 (j + 1) s (e : Int) (v : Int) (-1) = some (if M.bs p = (M.bs s).take (e + 1) then ((v : Int), ((e + 1 : Nat) : Int), true) else (0, 0, false)) := by
  have hw : wrap64 ((e : Int) + 1) = ((e + 1 : Nat) : Int) := by rw [M.wrap64_id (by omega) (by omega)]; omega
  simp only [pleachref01_Get_p.l1]
  rw [if_neg (by omega), hp, Option.bind_some, hw, if_pos (by omega), if_pos (by omega), M.toList_bs, M.toList_bs, M.bs_take, Int.toNat_natCast]
  by_cases hc : M.bs p = (M.bs s).take (e + 1)
  · rw [if_pos hc, if_pos hc]
  · rw [if_neg hc, if_neg hc]
theorem pleachref01_Get.last (s : ByteArray) (e v j : Nat) (he : e < s.size) (hs : s.size ≤ 9223372036854775806) (hv : v < 18446744073709551616) :
    pleachref01_Get_p.l1 (j + 1) s (e : Int) (v : Int) (-1) = some (if M.vb v = (M.bs s).take (e + 1) then ((v : Int), ((e + 1 : Nat) : Int), true) else (0, 0, false)) := by
  have hp : pleachref01_Put.f (v : Int) = some (M.sb (M.vb v)) := by unfold pleachref01_Put.f; rw [if_pos ⟨by omega, by omega⟩, Int.toNat_natCast]
  rw [pleachref01_Get.last_ s e v j _ hp he hs, M.bs_sb]
theorem pleachref01_Get.ev (a0 : ByteArray) (r : Int × Int × Bool) (h : pleachref01_Get.f a0 = some r) : ∃ k, pleachref01_Get_p.f k a0 = some r := by
  unfold pleachref01_Get.f at h
  split at h
  case isFalse => cases h
  rename_i hs
  obtain rfl := Option.some.inj h
  obtain ⟨e, he⟩ : ∃ e, e = M.lead (M.bs a0) := ⟨_, rfl⟩
  have hle := M.lead_le (M.bs a0)
  have hl := M.bs_length a0
  rw [← M.vget_ref a0 e he]
  refine ⟨e + 1 + (((e + 1) + 1) + 2), ?_⟩
  unfold pleachref01_Get_p.f
  have h1 := pleachref01_Get.end_ a0 hs (((e + 1) + 1) + 2) e 0 (Nat.zero_le _) (by simp [he])
  rw [show ((0 : Nat) : Int) = 0 from rfl] at h1
  rw [h1, Nat.zero_add]
  have hj : pleachref01_Get_p.j1 (((e + 1) + 1) + 2) a0 (e : Int) = pleachref01_Get_p.j2 (((e + 1) + 1) + 1) a0 (e : Int) (decide (a0.size ≤ e ∨ 9 < e)) := by
    rw [show ((e + 1) + 1) + 2 = (((e + 1) + 1) + 1) + 1 from rfl]
    simp only [pleachref01_Get_p.j1]
    split
    · rw [decide_eq_true (by omega)]
    · congr 1
      apply decide_eq_decide.2; omega
  rw [hj]
  rw [show ((e + 1) + 1) + 1 = ((e + 1) + 1) + 1 from rfl]
  simp only [pleachref01_Get_p.j2]
  by_cases hb : a0.size ≤ e ∨ 9 < e
  · rw [if_pos (by simpa using hb), if_pos hb]
  · rw [if_neg (by simpa using hb), if_neg hb]
    have h2 := pleachref01_Get.fold a0 e hs (by omega) 1 (e + 1) (Nat.le_refl _)
    have hv0 : M.vval [] % 18446744073709551616 = 0 := by rw [M.vval]
    rw [List.drop_of_length_le (by rw [List.length_take]; omega), hv0, show ((0 : Nat) : Int) = 0 from rfl] at h2
    have h3 : ((e + 1 : Nat) : Int) - 1 = (e : Int) := by omega
    rw [h3] at h2
    refine Eq.trans h2 ?_
    have hN : M.vval ((M.bs a0).take (e + 1)) % 18446744073709551616 < 18446744073709551616 := Nat.mod_lt _ (by decide)
    generalize M.vval ((M.bs a0).take (e + 1)) % 18446744073709551616 = v at hN ⊢
    exact pleachref01_Get.last a0 e v 0 (by omega) hs hN
theorem pleachref01_Get.calls (a0 : ByteArray) (r1 : Int) (r2 : Int) (r3 : Bool) (w : World) (h : pleachref01_Get.f a0 = some (r1, r2, r3)) :
    Calls Try.prog 11 #[.string a0] w fun e w' => e = .returned (.tuple #[.int .u64 r1, .int .i64 r2, .bool r3]) ∧ Below w.heap.size w w' := by
  obtain ⟨k, hk⟩ := pleachref01_Get.ev _ _ h
  exact pleachref01_Get_p.calls (k := k) (w := w) (h := hk)

/-! ### pleachref01_Zig_p: function 13 -/
def pleachref01_Zig_p.f (a0 : Int) : Option (Int) := if a0 ≥ 0 then (some (IntKind.u64.wrap ((IntKind.u64.wrap (a0)) * 2))) else (some (IntKind.u64.wrap ((IntKind.u64.wrap ((IntKind.u64.wrap (wrap64 (-(wrap64 (a0 + 1))))) * 2)) + 1)))
set_option maxHeartbeats 8000000 in
set_option maxRecDepth 100000 in
theorem pleachref01_Zig_p.calls (a0 : Int) (r : Int) (w : World) (h : pleachref01_Zig_p.f a0 = some r) :
    Calls Try.prog 13 #[.int .i64 a0] w fun e w' => e = .returned (.int .u64 r) ∧ Drawn0 w w' := by
  have H : (if a0 ≥ 0 then (some (IntKind.u64.wrap ((IntKind.u64.wrap (a0)) * 2))) else (some (IntKind.u64.wrap ((IntKind.u64.wrap ((IntKind.u64.wrap (wrap64 (-(wrap64 (a0 + 1))))) * 2)) + 1)))) = some r := h
  clear h
  by_cases c2 : a0 ≥ 0
  · rw [if_pos c2] at H
    have c2b0 : decide (0 ≤ a0) = true := decide_eq_true c2
    clear c2
    obtain rfl := Option.some.inj H
    go_enter Try.func13, Try.ntmps13
    go_wp2
    go_ret
    exact ⟨by first | rfl | (simp; done) | (simp [*]; done), by repeat (first | exact Drawn0.refl _ | apply Drawn0.step)⟩
  · rw [if_neg c2] at H
    have c2b0 : decide (0 ≤ a0) = false := decide_eq_false c2
    clear c2
    obtain rfl := Option.some.inj H
    go_enter Try.func13, Try.ntmps13
    go_wp2
    go_ret
    exact ⟨by first | rfl | (simp; done) | (simp [*]; done), by repeat (first | exact Drawn0.refl _ | apply Drawn0.step)⟩

-- this session's own plain form
def pleachref01_Zig.f (a0 : Int) : Option Int := if -9223372036854775808 ≤ a0 ∧ a0 ≤ 9223372036854775807 then some (M.zig a0) else none
theorem pleachref01_Zig.ev (a0 r : Int) (h : pleachref01_Zig.f a0 = some r) : pleachref01_Zig_p.f a0 = some r := by
  unfold pleachref01_Zig.f at h
  split at h
  · rename_i hh
    obtain rfl := Option.some.inj h
    unfold pleachref01_Zig_p.f M.zig
    simp only [M.u64_wrap, wrap64]
    split
    · congr 1; omega
    · congr 1; omega
  · cases h
theorem pleachref01_Zig.calls (a0 : Int) (r : Int) (w : World) (h : pleachref01_Zig.f a0 = some r) :
    Calls Try.prog 13 #[.int .i64 a0] w fun e w' => e = .returned (.int .u64 r) ∧ Drawn0 w w' := by
  exact pleachref01_Zig_p.calls (w := w) (h := pleachref01_Zig.ev _ _ h)

end Go.Proofs.Ytaooolfledfhoaa.EVarintSigns
