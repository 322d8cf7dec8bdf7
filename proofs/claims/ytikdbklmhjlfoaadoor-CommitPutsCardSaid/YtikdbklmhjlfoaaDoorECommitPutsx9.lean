-- Written by this session's own program (wip/tools/ext.py) for this claim; Lean checks it.
import Derived.Test.YtikdbklmhjlfoaaDoorECommitPutsx0
import Derived.Test.YtikdbklmhjlfoaaDoorECommitPutsx3
import Derived.Test.YtikdbklmhjlfoaaDoorECommitPutsx8
namespace Go.Proofs.YtikdbklmhjlfoaaDoor.ECommitPuts
open Go.RowKit Go.Proofs.YtikdbklmhjlfoaaDoorW.PrintWords Go.Proofs.YtikdbklmhjlfoaaDoorW.PrintLast Go.Proofs.YtikdbklmhjlfoaaDoorW.PrintMore
attribute [local go_sem] M.run_leq M.run_gtr M.run_geq max2_int min2_int max_two min_two max_three min_three max_four min_four   -- for this text's walks alone
set_option linter.unusedVariables false
set_option linter.unusedSimpArgs false

/-! ### pleachref01_Put_p: function 60 -/
def pleachref01_Put_p.l0 : Nat → List Int → ByteArray → Int → Option (ByteArray)
  | 0, _, _, _ => none
  | k + 1, x3, x4, x5 => if x5 < (x3.length : Int) then (if 0 ≤ x5 then (if (wrap64 (x5 + 1)) < (x3.length : Int) then ((some (([(wrap64 ((rd x3 x5) + 128)) % 256] : List Int) : List Int)).bind fun y212 => (if x4.size + (strOfNums y212).size ≤ 9223372036854775807 then (pleachref01_Put_p.l0 k x3 (x4 ++ (strOfNums y212)) (wrap64 (x5 + 1))) else (none))) else ((some (([(rd x3 x5) % 256] : List Int) : List Int)).bind fun y215 => (if x4.size + (strOfNums y215).size ≤ 9223372036854775807 then (pleachref01_Put_p.l0 k x3 (x4 ++ (strOfNums y215)) (wrap64 (x5 + 1))) else (none)))) else (none)) else (some x4)
def pleachref01_Put_p.f (k : Nat) (a0 : Int) : Option (ByteArray) := (pleachref01_Digits.f a0).bind fun t208 => (pleachref01_Put_p.l0 k t208 (⟨#[]⟩ : ByteArray) 0)
theorem pleachref01_Put_p.mono_l : ∀ k, (∀ y0 y1 y2, LeO (pleachref01_Put_p.l0 k y0 y1 y2) (pleachref01_Put_p.l0 (k + 1) y0 y1 y2))
  | 0 => fun _ _ _ r h => by simp [pleachref01_Put_p.l0] at h
  | k + 1 => by
    have ih0 := pleachref01_Put_p.mono_l k
    · intro y0 y1 y2
      unfold pleachref01_Put_p.l0
      repeat' first
      | (with_reducible exact ih0 _ _ _)
      | (with_reducible exact LeO.refl _)
      | (with_reducible exact LeO.none _)
      | (with_reducible refine LeO.ite ?_ ?_)
      | (with_reducible refine LeO.bind ?_ (fun _ => ?_))
      | exact ih0 _ _ _
      | exact LeO.none _
      | refine LeO.ite ?_ ?_
      | refine LeO.bind ?_ (fun _ => ?_)
theorem pleachref01_Put_p.mono : ∀ a0 k, LeO (pleachref01_Put_p.f k a0) (pleachref01_Put_p.f (k + 1) a0) := by
  intro a0 k
  have ih0 := pleachref01_Put_p.mono_l k
  unfold pleachref01_Put_p.f
  repeat' first
      | (with_reducible exact ih0 _ _ _)
      | (with_reducible exact LeO.refl _)
      | (with_reducible exact LeO.none _)
      | (with_reducible refine LeO.ite ?_ ?_)
      | (with_reducible refine LeO.bind ?_ (fun _ => ?_))
      | exact ih0 _ _ _
      | exact LeO.none _
      | refine LeO.ite ?_ ?_
      | refine LeO.bind ?_ (fun _ => ?_)
set_option maxHeartbeats 8000000 in
set_option maxRecDepth 100000 in
theorem pleachref01_Put_p.calls (k : Nat) (a0 : Int) (r : ByteArray) (w : World) (h : pleachref01_Put_p.f k a0 = some r) :
    Calls Tryd.prog 60 #[.int .u64 a0] w fun e w' => e = .returned (.string r) ∧ Below w.heap.size w w' := by
  have HB := Aside0.mk (Below.refl w.heap.size w)
  have H : ((pleachref01_Digits.f a0).bind fun t208 => (pleachref01_Put_p.l0 k t208 (⟨#[]⟩ : ByteArray) 0)) = some r := h
  clear h
  replace H := Option.bind_eq_some_iff.mp H
  obtain ⟨t208, A20, H⟩ := H
  replace H : (pleachref01_Put_p.l0 k t208 (⟨#[]⟩ : ByteArray) 0) = some r := H
  have A2 := Aside0.mk A20
  clear A20
  have H' := Aside0.mk H
  clear H
  go_enter Tryd.func60, Tryd.ntmps60
  go_wp2_with (first | ((with_reducible refine gate_callee (f := 69) rfl ?_); refine M.goes (some 8) Tryd.func69 #[.int .u64 a0] rfl ?_; (with_reducible refine (pleachref01_Digits.calls a0 t208 _ A2.out).mono ?_); rintro e w3 ⟨v209, rfl, ho0, hb⟩; refine ⟨_, rfl, ?_⟩; have n0_ := Aside0.mk (Kd.R_lower ho0 (below_size (M.up HB))); have n1_ := M.upS HB hb; clear HB; have HO210 := n0_; have HB := n1_; clear n0_ n1_; (try clear hb); (try clear ho0)))
  go_loopg [4, 5] k (fun kq v4 v5 w' => ∃ (x4_1 : ByteArray) (x5_1 : Int), v4 = .string x4_1 ∧ v5 = .int .i64 x5_1 ∧ Aside0 (pleachref01_Put_p.l0 kq t208 x4_1 x5_1 = some r) ∧ Aside0 (kq ≤ k) ∧ Aside0 (Kd.R (Kd.int .i64) 3 w' w.heap.size (fun _ => True) v209 t208) ∧ Aside0 (Below w.heap.size w w'))
  case atStart => exact ⟨((⟨#[]⟩ : ByteArray)), (0), (by first | rfl | (simp; done) | (simp [*]; done) | (simp [M.isEmpty_bne]; done)), (by first | rfl | (simp; done) | (simp [*]; done) | (simp [M.isEmpty_bne]; done)), H', ⟨Nat.le_refl _⟩, ⟨by (with_reducible repeat (first | apply Kd.R_alloc | apply Kd.R_drewN | apply Kd.R_drew)); exact HO210.out⟩, ⟨M.up HB⟩⟩
  case round =>
    clear H'
    try clear p2
    obtain ⟨x4_1, x5_1, rfl, rfl, HA, HK1, zaa, HB⟩ := hrel
    cases gk with
    | zero => exact absurd HA.out (by simp [pleachref01_Put_p.l0])
    | succ k1 =>
      have H := HA.out
      clear HA
      simp only [pleachref01_Put_p.l0] at H
      by_cases c4 : x5_1 < (t208.length : Int)
      · rw [if_pos c4] at H
        have c4b0 : decide (x5_1 < (t208.length : Int)) = true := decide_eq_true c4
        clear c4
        by_cases c5 : 0 ≤ x5_1
        · rw [if_pos c5] at H
          have c5b0 : decide (0 ≤ x5_1) = true := decide_eq_true c5
          clear c5
          by_cases c6 : (wrap64 (x5_1 + 1)) < (t208.length : Int)
          · rw [if_pos c6] at H
            have c6b0 : decide ((wrap64 (x5_1 + 1)) < (t208.length : Int)) = true := decide_eq_true c6
            clear c6
            obtain ⟨y212, hy212⟩ : ∃ y_ : List Int, y_ = (([(wrap64 ((rd t208 x5_1) + 128)) % 256] : List Int)) := ⟨_, rfl⟩
            replace H : (if x4_1.size + (strOfNums y212).size ≤ 9223372036854775807 then (pleachref01_Put_p.l0 k1 t208 (x4_1 ++ (strOfNums y212)) (wrap64 (x5_1 + 1))) else (none)) = some r := by first | (rw [hy212]; with_reducible exact H) | (have H2_ := (Option.bind_some _ _).symm.trans H; rw [hy212]; with_reducible exact H2_) | (have H2_ := (Option.bind_some _ _).symm.trans H; with_reducible exact H2_) | with_reducible exact H | (rw [hy212]; exact H) | exact H
            have Ny212 := Aside0.mk hy212
            clear hy212
            by_cases c7 : x4_1.size + (strOfNums y212).size ≤ 9223372036854775807
            · rw [if_pos c7] at H
              have c7b0 := eq_true c7
              have c7b1 : decide (x4_1.size + (strOfNums y212).size ≤ 9223372036854775807) = true := decide_eq_true c7
              try have c7b2 : (9223372036854775807 < x4_1.size + (strOfNums y212).size) = False := eq_false (Nat.not_lt.2 c7)
              have H' := Aside0.mk H
              clear H
              obtain ⟨Ao8, co8, eo8⟩ := Kd.R_slice zaa.out
              subst eo8
              have p211 : 0 ≤ (x5_1 : Int) := of_decide_eq_true (by first | (with_reducible assumption) | assumption)
              have q211 : x5_1 < (t208.length : Int) := of_decide_eq_true (by first | (with_reducible assumption) | assumption)
              obtain ⟨ad211, e211, hx211_0⟩ := Kd.at_int (Kd.R_reads' zaa.out).2.2 x5_1 p211 q211
              cases e211
              replace p211 := eq_true p211
              replace q211 := eq_true q211
              go_wp2_with (first | ((with_reducible refine gate_dst (N := 29) rfl ?_); refine Kd.R_lit (Kd.int .u8) _ 5 ?hg (N := 29) ?hd (xs := ([(wrap64 ((rd t208 x5_1) + 128)) % 256] : List Int)) (inner := [.int .u8 ((wrap64 ((rd t208 x5_1) + 128)) % 256)]) (ok := fun _ => True) (okp := fun _ => True) ?hr ?hp (fun _ hk => hk) trivial (Below.refl _ _) (Nat.le_refl _) (by simp) ?_; (case hd => rfl); (case hg => rfl); (case hr => first | (go_simp; done) | (go_simp; rfl)); (case hp => exact (Reps.one (show Kd.M (Kd.int .u8) _ _ _ ((wrap64 ((rd t208 x5_1) + 128)) % 256) [.int .u8 ((wrap64 ((rd t208 x5_1) + 128)) % 256)] from rfl) (Reps.none _ _))); intro v213 w9 ho10 hb hg_ hnew_; clear hg_ hnew_; (first | rw [← Ny212.out] at ho10 | (simp only [Int.reduceToNat] at ho10; rw [← Ny212.out] at ho10)); have n0_ := M.roB zaa hb; have n1_ := Aside0.mk (Kd.R_lower ho10 (below_size (M.up HB))); have n2_ := M.upS HB hb; clear zaa HB; have zaa := n0_; have HO214 := n1_; have HB := n2_; clear n0_ n1_ n2_; clear hb ho10; have hcv11 := own_string (P := Tryd.prog) Tryd.underlying76 Tryd.underlying5 Tryd.underlying9 (Kd.own_of_R HO214.out)))
              go_roundg k1
              case measure => have := HK1.out; omega
              case rel => exact ⟨(x4_1 ++ (strOfNums y212)), (wrap64 (x5_1 + 1)), (by first | rfl | (simp; done) | (simp [*]; done) | (simp [M.isEmpty_bne]; done)), (by first | rfl | (simp; done) | (simp [*]; done) | (simp [M.isEmpty_bne]; done)), H', ⟨by have := HK1.out; omega⟩, ⟨by (with_reducible repeat (first | apply Kd.R_alloc | apply Kd.R_drewN | apply Kd.R_drew)); exact zaa.out⟩, ⟨M.up HB⟩⟩
            · rw [if_neg c7] at H
              exact absurd H (by simp)
          · rw [if_neg c6] at H
            have c6b0 : decide ((wrap64 (x5_1 + 1)) < (t208.length : Int)) = false := decide_eq_false c6
            clear c6
            obtain ⟨y215, hy215⟩ : ∃ y_ : List Int, y_ = (([(rd t208 x5_1) % 256] : List Int)) := ⟨_, rfl⟩
            replace H : (if x4_1.size + (strOfNums y215).size ≤ 9223372036854775807 then (pleachref01_Put_p.l0 k1 t208 (x4_1 ++ (strOfNums y215)) (wrap64 (x5_1 + 1))) else (none)) = some r := by first | (rw [hy215]; with_reducible exact H) | (have H2_ := (Option.bind_some _ _).symm.trans H; rw [hy215]; with_reducible exact H2_) | (have H2_ := (Option.bind_some _ _).symm.trans H; with_reducible exact H2_) | with_reducible exact H | (rw [hy215]; exact H) | exact H
            have Ny215 := Aside0.mk hy215
            clear hy215
            by_cases c12 : x4_1.size + (strOfNums y215).size ≤ 9223372036854775807
            · rw [if_pos c12] at H
              have c12b0 := eq_true c12
              have c12b1 : decide (x4_1.size + (strOfNums y215).size ≤ 9223372036854775807) = true := decide_eq_true c12
              try have c12b2 : (9223372036854775807 < x4_1.size + (strOfNums y215).size) = False := eq_false (Nat.not_lt.2 c12)
              have H' := Aside0.mk H
              clear H
              obtain ⟨Ao13, co13, eo13⟩ := Kd.R_slice zaa.out
              subst eo13
              have p211 : 0 ≤ (x5_1 : Int) := of_decide_eq_true (by first | (with_reducible assumption) | assumption)
              have q211 : x5_1 < (t208.length : Int) := of_decide_eq_true (by first | (with_reducible assumption) | assumption)
              obtain ⟨ad211, e211, hx211_0⟩ := Kd.at_int (Kd.R_reads' zaa.out).2.2 x5_1 p211 q211
              cases e211
              replace p211 := eq_true p211
              replace q211 := eq_true q211
              go_wp2_with (first | ((with_reducible refine gate_dst (N := 29) rfl ?_); refine Kd.R_lit (Kd.int .u8) _ 5 ?hg (N := 29) ?hd (xs := ([(rd t208 x5_1) % 256] : List Int)) (inner := [.int .u8 ((rd t208 x5_1) % 256)]) (ok := fun _ => True) (okp := fun _ => True) ?hr ?hp (fun _ hk => hk) trivial (Below.refl _ _) (Nat.le_refl _) (by simp) ?_; (case hd => rfl); (case hg => rfl); (case hr => first | (go_simp; done) | (go_simp; rfl)); (case hp => exact (Reps.one (show Kd.M (Kd.int .u8) _ _ _ ((rd t208 x5_1) % 256) [.int .u8 ((rd t208 x5_1) % 256)] from rfl) (Reps.none _ _))); intro v216 w14 ho15 hb hg_ hnew_; clear hg_ hnew_; (first | rw [← Ny215.out] at ho15 | (simp only [Int.reduceToNat] at ho15; rw [← Ny215.out] at ho15)); have n0_ := M.roB zaa hb; have n1_ := Aside0.mk (Kd.R_lower ho15 (below_size (M.up HB))); have n2_ := M.upS HB hb; clear zaa HB; have zaa := n0_; have HO217 := n1_; have HB := n2_; clear n0_ n1_ n2_; clear hb ho15; have hcv16 := own_string (P := Tryd.prog) Tryd.underlying76 Tryd.underlying5 Tryd.underlying9 (Kd.own_of_R HO217.out)))
              go_roundg k1
              case measure => have := HK1.out; omega
              case rel => exact ⟨(x4_1 ++ (strOfNums y215)), (wrap64 (x5_1 + 1)), (by first | rfl | (simp; done) | (simp [*]; done) | (simp [M.isEmpty_bne]; done)), (by first | rfl | (simp; done) | (simp [*]; done) | (simp [M.isEmpty_bne]; done)), H', ⟨by have := HK1.out; omega⟩, ⟨by (with_reducible repeat (first | apply Kd.R_alloc | apply Kd.R_drewN | apply Kd.R_drew)); exact zaa.out⟩, ⟨M.up HB⟩⟩
            · rw [if_neg c12] at H
              exact absurd H (by simp)
        · rw [if_neg c5] at H
          exact absurd H (by simp)
      · rw [if_neg c4] at H
        have c4b0 : decide (x5_1 < (t208.length : Int)) = false := decide_eq_false c4
        clear c4
        obtain rfl := Option.some.inj H
        obtain ⟨Ao17, co17, eo17⟩ := Kd.R_slice zaa.out
        subst eo17
        go_wp2
        go_ret
        exact M.fin (M.up HB)

-- this session's own plain form
def pleachref01_Put.f (a0 : Int) : Option ByteArray := if 0 ≤ a0 ∧ a0 < 18446744073709551616 then some (M.sb (M.vb a0.toNat)) else none
theorem pleachref01_Put.one (d : Int) : strOfNums [d] = M.sb [UInt8.ofNat d.toNat] := rfl
theorem pleachref01_Put.loop (l : List Int) (hl : l.length ≤ 10) (hr : ∀ d ∈ l, 0 ≤ d ∧ d < 128) : ∀ (rest pre : List Int) (out : ByteArray), l = pre ++ rest → out.size = pre.length →
    ∃ k, pleachref01_Put_p.l0 k l out (pre.length : Int) = some (out ++ M.sb (M.venc rest)) := by
  intro rest
  induction rest with
  | nil =>
    intro pre out he ho
    refine ⟨1, ?_⟩
    simp only [pleachref01_Put_p.l0]
    rw [if_neg (by rw [he]; simp)]
    congr 1
    exact M.bs_inj (by rw [M.bs_append]; simp [M.venc, M.bs_sb])
  | cons d rest ih =>
    intro pre out he ho
    have hlen : l.length = pre.length + rest.length + 1 := by rw [he]; simp; omega
    have hd := hr d (by rw [he]; simp)
    have hrd : rd l (pre.length : Int) = d := by rw [rd, he]; simp
    have hw : wrap64 ((pre.length : Int) + 1) = ((pre.length + 1 : Nat) : Int) := by rw [M.wrap64_id (by omega) (by omega)]; omega
    have hsz : ∀ x, (strOfNums [x]).size = 1 := fun x => by rw [strOfNums_size]; rfl
    have hp : pre.length + 1 = (pre ++ [d]).length := by simp
    cases rest with
    | nil =>
      obtain ⟨k, hk⟩ := ih (pre ++ [d]) (out ++ M.sb [UInt8.ofNat d.toNat]) (by rw [he]; simp) (by rw [M.size_append, M.size_sb, ho]; simp)
      refine ⟨k + 1, ?_⟩
      have e : (rd l (pre.length : Int)) % 256 = d := by rw [hrd]; omega
      simp only [List.length_nil] at hlen
      simp only [pleachref01_Put_p.l0, Option.bind_some]
      rw [if_pos (by omega), if_pos (by omega), hw, if_neg (by omega), e, hsz, if_pos (by omega), pleachref01_Put.one, hp, hk]
      congr 1
      exact M.bs_inj (by simp [M.bs_append, M.bs_sb, M.venc])
    | cons e rest =>
      obtain ⟨k, hk⟩ := ih (pre ++ [d]) (out ++ M.sb [UInt8.ofNat (d.toNat + 128)]) (by rw [he]; simp) (by rw [M.size_append, M.size_sb, ho]; simp)
      refine ⟨k + 1, ?_⟩
      have e2 : (wrap64 ((rd l (pre.length : Int)) + 128)) % 256 = d + 128 := by rw [hrd, M.wrap64_id (by omega) (by omega)]; omega
      have e3 : (d + 128).toNat = d.toNat + 128 := by omega
      simp only [pleachref01_Put_p.l0, Option.bind_some]
      simp only [List.length_cons] at hlen
      rw [if_pos (by omega), if_pos (by omega), hw, if_pos (by omega), e2, hsz, if_pos (by omega), pleachref01_Put.one, e3, hp, hk]
      congr 1
      exact M.bs_inj (by simp [M.bs_append, M.bs_sb, M.venc_cons])
theorem pleachref01_Put.ev (a0 : Int) (r : ByteArray) (h : pleachref01_Put.f a0 = some r) : ∃ k, pleachref01_Put_p.f k a0 = some r := by
  unfold pleachref01_Put.f at h
  split at h
  · rename_i hh
    obtain rfl := Option.some.inj h
    obtain ⟨m, rfl⟩ := Int.eq_ofNat_of_zero_le hh.1
    obtain ⟨k, hk⟩ := pleachref01_Put.loop (M.vdig m) (by rw [M.vdig_length]; exact M.vb_le m (by omega)) (M.vdig_range m) (M.vdig m) [] (⟨#[]⟩ : ByteArray) rfl rfl
    refine ⟨k, ?_⟩
    unfold pleachref01_Put_p.f pleachref01_Digits.f
    rw [if_pos hh]
    simp only [Option.bind_some, Int.toNat_natCast]
    refine Eq.trans hk ?_
    congr 1
    exact M.bs_inj (by rw [M.bs_append, M.bs_nil, List.nil_append, M.bs_sb, M.bs_sb, M.venc_vdig])
  · cases h
theorem pleachref01_Put.calls (a0 : Int) (r : ByteArray) (w : World) (h : pleachref01_Put.f a0 = some r) :
    Calls Tryd.prog 60 #[.int .u64 a0] w fun e w' => e = .returned (.string r) ∧ Below w.heap.size w w' := by
  obtain ⟨k, hk⟩ := pleachref01_Put.ev _ _ h
  exact pleachref01_Put_p.calls (k := k) (w := w) (h := hk)

/-! ### pleachref04_PutNum_p: function 42 -/
def pleachref04_PutNum_p.j0 : Nat → Int → Option (ByteArray)
  | 0, _ => none
  | k + 1, x0 => (pleachref01_Put.f (IntKind.u64.wrap (x0))).bind fun t218 => (some t218)
def pleachref04_PutNum_p.f (k : Nat) (a0 : Int) : Option (ByteArray) := if a0 < 0 then (pleachref04_PutNum_p.j0 k 0) else (pleachref04_PutNum_p.j0 k a0)
theorem pleachref04_PutNum_p.mono_l : ∀ k, (∀ y0, LeO (pleachref04_PutNum_p.j0 k y0) (pleachref04_PutNum_p.j0 (k + 1) y0))
  | 0 => fun _ r h => by simp [pleachref04_PutNum_p.j0] at h
  | k + 1 => by
    have ih0 := pleachref04_PutNum_p.mono_l k
    · intro y0
      unfold pleachref04_PutNum_p.j0
      repeat' first
      | (with_reducible exact ih0 _)
      | (with_reducible exact LeO.refl _)
      | (with_reducible exact LeO.none _)
      | (with_reducible refine LeO.ite ?_ ?_)
      | (with_reducible refine LeO.bind ?_ (fun _ => ?_))
      | exact ih0 _
      | exact LeO.none _
      | refine LeO.ite ?_ ?_
      | refine LeO.bind ?_ (fun _ => ?_)
theorem pleachref04_PutNum_p.mono : ∀ a0 k, LeO (pleachref04_PutNum_p.f k a0) (pleachref04_PutNum_p.f (k + 1) a0) := by
  intro a0 k
  have ih0 := pleachref04_PutNum_p.mono_l k
  unfold pleachref04_PutNum_p.f
  repeat' first
      | (with_reducible exact ih0 _)
      | (with_reducible exact LeO.refl _)
      | (with_reducible exact LeO.none _)
      | (with_reducible refine LeO.ite ?_ ?_)
      | (with_reducible refine LeO.bind ?_ (fun _ => ?_))
      | exact ih0 _
      | exact LeO.none _
      | refine LeO.ite ?_ ?_
      | refine LeO.bind ?_ (fun _ => ?_)
set_option maxHeartbeats 8000000 in
set_option maxRecDepth 100000 in
theorem pleachref04_PutNum_p.calls (k : Nat) (a0 : Int) (r : ByteArray) (w : World) (h : pleachref04_PutNum_p.f k a0 = some r) :
    Calls Tryd.prog 42 #[.int .i64 a0] w fun e w' => e = .returned (.string r) ∧ Below w.heap.size w w' := by
  have HB := Aside0.mk (Below.refl w.heap.size w)
  have H : (if a0 < 0 then (pleachref04_PutNum_p.j0 k 0) else (pleachref04_PutNum_p.j0 k a0)) = some r := h
  clear h
  have HC2 := Aside0.mk H
  clear H
  go_enter Tryd.func42, Tryd.ntmps42
  go_upto_if 4 with (fail)
  go_cut [0] (fun v0 wc => ∃ (kq : Nat) (x0_1 : Int), v0 = .int .i64 x0_1 ∧ Aside0 (pleachref04_PutNum_p.j0 kq x0_1 = some r) ∧ Aside0 (kq ≤ k) ∧ Aside0 (Below w.heap.size w wc))
  case first =>
    have H := HC2.out
    clear HC2
    by_cases c3 : a0 < 0
    · rw [if_pos c3] at H
      have c3b0 : decide (a0 < 0) = true := decide_eq_true c3
      clear c3
      (first | rw [c3b0] | (simp only [i64_w, i32_w]; rw [c3b0]) | skip)
      have H' := Aside0.mk H
      clear H
      go_wp2
      go_meet
      case rel => exact ⟨_, (0), (by first | rfl | (simp; done) | (simp [*]; done) | (simp [M.isEmpty_bne]; done)), H', ⟨by first | omega | exact Nat.le_refl _⟩, ⟨M.up HB⟩⟩
    · rw [if_neg c3] at H
      have c3b0 : decide (a0 < 0) = false := decide_eq_false c3
      clear c3
      (first | rw [c3b0] | (simp only [i64_w, i32_w]; rw [c3b0]) | skip)
      have H' := Aside0.mk H
      clear H
      go_wp2
      go_meet
      case rel => exact ⟨_, (a0), (by first | rfl | (simp; done) | (simp [*]; done) | (simp [M.isEmpty_bne]; done)), H', ⟨by first | omega | exact Nat.le_refl _⟩, ⟨M.up HB⟩⟩
  case rest =>
    clear HC2
    try clear p2
    try clear c3
    try clear c3b0
    obtain ⟨kq, x0_1, rfl, HA, HJ1, HB⟩ := hcut
    cases kq with
    | zero => exact absurd HA.out (by simp [pleachref04_PutNum_p.j0])
    | succ kj1 =>
      have H := HA.out
      clear HA
      simp only [pleachref04_PutNum_p.j0] at H
      replace H := Option.bind_eq_some_iff.mp H
      obtain ⟨t218, A40, H⟩ := H
      replace H : (some t218) = some r := H
      have A4 := Aside0.mk A40
      clear A40
      obtain rfl := Option.some.inj H
      go_wp2_with (first | ((with_reducible refine gate_callee (f := 60) rfl ?_); refine M.goes (some 7) Tryd.func60 #[.int .u64 (IntKind.u64.wrap (x0_1))] rfl ?_; (with_reducible refine (pleachref01_Put.calls (IntKind.u64.wrap (x0_1)) t218 _ A4.out).mono ?_); rintro e w5 ⟨rfl, hb⟩; refine ⟨_, rfl, ?_⟩; have n0_ := M.upS HB hb; clear HB; have HB := n0_; clear n0_; (try clear hb)))
      go_ret
      exact M.fin (M.up HB)

-- this session's own plain form
def pleachref04_PutNum.f (a0 : Int) : Option ByteArray := if a0 ≤ 9223372036854775807 then some (M.sb (M.vb a0.toNat)) else none
theorem pleachref04_PutNum.ev (a0 : Int) (r : ByteArray) (h : pleachref04_PutNum.f a0 = some r) : ∃ k, pleachref04_PutNum_p.f k a0 = some r := by
  unfold pleachref04_PutNum.f at h
  split at h
  · rename_i hh
    have key : ∀ n : Nat, n ≤ 9223372036854775807 → pleachref04_PutNum_p.j0 1 (n : Int) = some (M.sb (M.vb n)) := by
      intro n hn
      simp only [pleachref04_PutNum_p.j0, pleachref01_Put.f]
      rw [M.u64_id (by omega) (by omega), if_pos ⟨by omega, by omega⟩, Int.toNat_natCast]; rfl
    refine ⟨1, ?_⟩
    unfold pleachref04_PutNum_p.f
    by_cases h0 : a0 < 0
    · rw [if_pos h0]
      have := key 0 (by decide)
      rw [show a0.toNat = 0 from by omega] at h
      exact this.trans h
    · rw [if_neg h0]
      have := key a0.toNat (by omega)
      rw [show ((a0.toNat : Nat) : Int) = a0 from by omega] at this
      exact this.trans h
  · cases h
theorem pleachref04_PutNum.calls (a0 : Int) (r : ByteArray) (w : World) (h : pleachref04_PutNum.f a0 = some r) :
    Calls Tryd.prog 42 #[.int .i64 a0] w fun e w' => e = .returned (.string r) ∧ Below w.heap.size w w' := by
  obtain ⟨k, hk⟩ := pleachref04_PutNum.ev _ _ h
  exact pleachref04_PutNum_p.calls (k := k) (w := w) (h := hk)

/-! ### pleachref04_PutText: function 43 -/
def pleachref04_PutText.f (a0 : ByteArray) : Option ByteArray := if a0.size ≤ 9223372036854775797 then some (M.sb (M.vb a0.size) ++ a0) else none
theorem pleachref04_PutText.go (a0 p : ByteArray) (w : World) (h0 : a0.size ≤ 9223372036854775797) (hp : pleachref01_Put.f (a0.size : Int) = some p) (hs : p.size + a0.size ≤ 9223372036854775807) :
    Calls Tryd.prog 43 #[.string a0] w fun e w' => e = .returned (.string (p ++ a0)) ∧ Below w.heap.size w w' := by
  have HP := Aside0.mk hp
  clear hp
  have c3b0 := eq_true hs
  have c3b1 : decide (p.size + a0.size ≤ 9223372036854775807) = true := decide_eq_true hs
  have c3b2 : (9223372036854775807 < p.size + a0.size) = False := eq_false (Nat.not_lt.2 hs)
  go_enter Tryd.func43, Tryd.ntmps43
  go_wp2_with (go_at_call 60; refine (pleachref01_Put.calls (a0.size : Int) p _ HP.out).mono ?_; rintro e w1 ⟨rfl, hb⟩)
  go_ret
  exact ⟨rfl, hb⟩
theorem pleachref04_PutText.calls (a0 : ByteArray) (r : ByteArray) (w : World) (h : pleachref04_PutText.f a0 = some r) :
    Calls Tryd.prog 43 #[.string a0] w fun e w' => e = .returned (.string r) ∧ Below w.heap.size w w' := by
  unfold pleachref04_PutText.f at h
  split at h
  · rename_i hh
    obtain rfl := Option.some.inj h
    have hl := M.vb_le a0.size (by omega)
    refine pleachref04_PutText.go a0 _ w hh ?_ (by rw [M.size_sb]; omega)
    unfold pleachref01_Put.f
    rw [if_pos ⟨by omega, by omega⟩, Int.toNat_natCast]
  · cases h

/-! ### pleachref35_Put_p: function 17 -/
def pleachref35_Put_p.l0 : Nat → ByteArray → List ByteArray → Int → Int → Int → List ByteArray → ByteArray → ByteArray → Option (ByteArray)
  | 0, _, _, _, _, _, _, _, _ => none
  | k + 1, x3, x19, x20, x21, zab, zac, zad, zae => if x21 < x20 then (if 0 ≤ x21 then (if x21 < (x19.length : Int) then (if x3.size + (rdOf ByteArray.empty x19 x21).size ≤ 9223372036854775807 then (pleachref35_Put_p.l0 k (x3 ++ (rdOf ByteArray.empty x19 x21)) x19 x20 (wrap64 (x21 + 1)) zab zac zad zae) else (none)) else (none)) else (none)) else (if x3.size + zad.size ≤ 9223372036854775807 then ((pleachref04_PutText.f zae).bind fun t224 => (if (x3 ++ zad).size + t224.size ≤ 9223372036854775807 then (some ((x3 ++ zad) ++ t224)) else (none))) else (none))
def pleachref35_Put_p.f (k : Nat) (a0_0 : Int) (l0_1 : List ByteArray) (a0_2 : ByteArray) (a0_3 : ByteArray) : Option (ByteArray) := (pleachref35_Is.f a0_0 l0_1 a0_2 a0_3).bind fun t220 => (if t220 = true then ((pleachref04_PutNum.f a0_0).bind fun t221 => (if 1 + t221.size ≤ 9223372036854775807 then ((pleachref04_PutNum.f (l0_1.length : Int)).bind fun t222 => (if ((⟨#[67]⟩ : ByteArray) ++ t221).size + t222.size ≤ 9223372036854775807 then (pleachref35_Put_p.l0 k (((⟨#[67]⟩ : ByteArray) ++ t221) ++ t222) l0_1 (l0_1.length : Int) 0 a0_0 l0_1 a0_2 a0_3) else (none))) else (none))) else (some (⟨#[]⟩ : ByteArray)))
theorem pleachref35_Put_p.mono_l : ∀ k, (∀ y0 y1 y2 y3 y4 y5 y6 y7, LeO (pleachref35_Put_p.l0 k y0 y1 y2 y3 y4 y5 y6 y7) (pleachref35_Put_p.l0 (k + 1) y0 y1 y2 y3 y4 y5 y6 y7))
  | 0 => fun _ _ _ _ _ _ _ _ r h => by simp [pleachref35_Put_p.l0] at h
  | k + 1 => by
    have ih0 := pleachref35_Put_p.mono_l k
    · intro y0 y1 y2 y3 y4 y5 y6 y7
      unfold pleachref35_Put_p.l0
      repeat' first
      | (with_reducible exact ih0 _ _ _ _ _ _ _ _)
      | (with_reducible exact LeO.refl _)
      | (with_reducible exact LeO.none _)
      | (with_reducible refine LeO.ite ?_ ?_)
      | (with_reducible refine LeO.bind ?_ (fun _ => ?_))
      | exact ih0 _ _ _ _ _ _ _ _
      | exact LeO.none _
      | refine LeO.ite ?_ ?_
      | refine LeO.bind ?_ (fun _ => ?_)
theorem pleachref35_Put_p.mono : ∀ a0 a1 a2 a3 k, LeO (pleachref35_Put_p.f k a0 a1 a2 a3) (pleachref35_Put_p.f (k + 1) a0 a1 a2 a3) := by
  intro a0 a1 a2 a3 k
  have ih0 := pleachref35_Put_p.mono_l k
  unfold pleachref35_Put_p.f
  repeat' first
      | (with_reducible exact ih0 _ _ _ _ _ _ _ _)
      | (with_reducible exact LeO.refl _)
      | (with_reducible exact LeO.none _)
      | (with_reducible refine LeO.ite ?_ ?_)
      | (with_reducible refine LeO.bind ?_ (fun _ => ?_))
      | exact ih0 _ _ _ _ _ _ _ _
      | exact LeO.none _
      | refine LeO.ite ?_ ?_
      | refine LeO.bind ?_ (fun _ => ?_)
def pleachref35_Put_p.T3 : Bool × List (List Nat × List Nat) := (true, [([], []), ([0], [0]), ([1], [1]), ([2], [2]), ([], []), ([4], [4]), ([5], [5]), ([6, 2], [6]), ([3, 7], [3, 7]), ([8, 7, 0, 1, 2, 3, 4, 5, 6, 7, 8], [8])])
def pleachref35_Put_p.B3 : List Nat := [0, 1, 3, 7, 0, 16, 48, 119, 255, 511]
theorem pleachref35_Put_p.tab3 : rtab .any (opsOf Tryd.f17 3) = pleachref35_Put_p.T3 := by kernel_rfl
theorem pleachref35_Put_p.bits3 : waitsOk pleachref35_Put_p.T3.2 pleachref35_Put_p.B3 = true := by kernel_rfl
def pleachref35_Put_p.T9 : Bool × List (List Nat × List Nat) := (true, [([], []), ([], []), ([1], [1]), ([0, 2], [0, 2]), ([], []), ([4], [4]), ([5], [5]), ([3, 6], [3, 6]), ([7, 6, 0, 1, 2, 3, 4, 5, 6, 7], [7])])
def pleachref35_Put_p.B9 : List Nat := [0, 0, 2, 7, 0, 16, 48, 127, 255]
theorem pleachref35_Put_p.tab9 : rtab .any (opsOf Tryd.f17 9) = pleachref35_Put_p.T9 := by kernel_rfl
theorem pleachref35_Put_p.bits9 : waitsOk pleachref35_Put_p.T9.2 pleachref35_Put_p.B9 = true := by kernel_rfl
set_option maxHeartbeats 8000000 in
set_option maxRecDepth 100000 in
theorem pleachref35_Put_p.calls (k : Nat) (a0_0 : Int) (A0_1 : Option Addr) (c0_1 : Nat) (l0_1 : List ByteArray) (a0_2 : ByteArray) (a0_3 : ByteArray) (r : ByteArray) (w : World) (hr0_1 : Kd.C Kd.string w A0_1 l0_1.length l0_1) (hc0_1 : l0_1.length ≤ c0_1) (h : pleachref35_Put_p.f k a0_0 l0_1 a0_2 a0_3 = some r) :
    Calls Tryd.prog 17 #[.agg #[.int .i64 a0_0, .slice A0_1 l0_1.length c0_1, .string a0_2, .string a0_3]] w fun e w' => e = .returned (.string r) ∧ Below w.heap.size w w' := by
  have hu24 := Tryd.underlying24
  have HR0_1 := Aside0.mk hr0_1
  have HC0_1 := Aside0.mk hc0_1
  clear hr0_1 hc0_1
  have HB := Aside0.mk (Below.refl w.heap.size w)
  have H : ((pleachref35_Is.f a0_0 l0_1 a0_2 a0_3).bind fun t220 => (if t220 = true then ((pleachref04_PutNum.f a0_0).bind fun t221 => (if 1 + t221.size ≤ 9223372036854775807 then ((pleachref04_PutNum.f (l0_1.length : Int)).bind fun t222 => (if ((⟨#[67]⟩ : ByteArray) ++ t221).size + t222.size ≤ 9223372036854775807 then (pleachref35_Put_p.l0 k (((⟨#[67]⟩ : ByteArray) ++ t221) ++ t222) l0_1 (l0_1.length : Int) 0 a0_0 l0_1 a0_2 a0_3) else (none))) else (none))) else (some (⟨#[]⟩ : ByteArray)))) = some r := h
  clear h
  replace H := Option.bind_eq_some_iff.mp H
  obtain ⟨t220, A20, H⟩ := H
  replace H : (if t220 = true then ((pleachref04_PutNum.f a0_0).bind fun t221 => (if 1 + t221.size ≤ 9223372036854775807 then ((pleachref04_PutNum.f (l0_1.length : Int)).bind fun t222 => (if ((⟨#[67]⟩ : ByteArray) ++ t221).size + t222.size ≤ 9223372036854775807 then (pleachref35_Put_p.l0 k (((⟨#[67]⟩ : ByteArray) ++ t221) ++ t222) l0_1 (l0_1.length : Int) 0 a0_0 l0_1 a0_2 a0_3) else (none))) else (none))) else (some (⟨#[]⟩ : ByteArray))) = some r := H
  have A2 := Aside0.mk A20
  clear A20
  by_cases c3 : t220 = true
  · subst c3
    have H1 : ((pleachref04_PutNum.f a0_0).bind fun t221 => (if 1 + t221.size ≤ 9223372036854775807 then ((pleachref04_PutNum.f (l0_1.length : Int)).bind fun t222 => (if ((⟨#[67]⟩ : ByteArray) ++ t221).size + t222.size ≤ 9223372036854775807 then (pleachref35_Put_p.l0 k (((⟨#[67]⟩ : ByteArray) ++ t221) ++ t222) l0_1 (l0_1.length : Int) 0 a0_0 l0_1 a0_2 a0_3) else (none))) else (none))) = some r := by rw [if_pos rfl] at H; exact H
    clear H
    have H := H1
    clear H1
    replace H := Option.bind_eq_some_iff.mp H
    obtain ⟨t221, A40, H⟩ := H
    replace H : (if 1 + t221.size ≤ 9223372036854775807 then ((pleachref04_PutNum.f (l0_1.length : Int)).bind fun t222 => (if ((⟨#[67]⟩ : ByteArray) ++ t221).size + t222.size ≤ 9223372036854775807 then (pleachref35_Put_p.l0 k (((⟨#[67]⟩ : ByteArray) ++ t221) ++ t222) l0_1 (l0_1.length : Int) 0 a0_0 l0_1 a0_2 a0_3) else (none))) else (none)) = some r := H
    have A4 := Aside0.mk A40
    clear A40
    by_cases c5 : 1 + t221.size ≤ 9223372036854775807
    · rw [if_pos c5] at H
      have c5b0 := eq_true c5
      have c5b1 : decide (1 + t221.size ≤ 9223372036854775807) = true := decide_eq_true c5
      try have c5b2 : (9223372036854775807 < 1 + t221.size) = False := eq_false (Nat.not_lt.2 c5)
      replace H := Option.bind_eq_some_iff.mp H
      obtain ⟨t222, A60, H⟩ := H
      replace H : (if ((⟨#[67]⟩ : ByteArray) ++ t221).size + t222.size ≤ 9223372036854775807 then (pleachref35_Put_p.l0 k (((⟨#[67]⟩ : ByteArray) ++ t221) ++ t222) l0_1 (l0_1.length : Int) 0 a0_0 l0_1 a0_2 a0_3) else (none)) = some r := H
      have A6 := Aside0.mk A60
      clear A60
      by_cases c7 : ((⟨#[67]⟩ : ByteArray) ++ t221).size + t222.size ≤ 9223372036854775807
      · rw [if_pos c7] at H
        have c7b0 := eq_true c7
        have c7b1 : decide (((⟨#[67]⟩ : ByteArray) ++ t221).size + t222.size ≤ 9223372036854775807) = true := decide_eq_true c7
        try have c7b2 : (9223372036854775807 < ((⟨#[67]⟩ : ByteArray) ++ t221).size + t222.size) = False := eq_false (Nat.not_lt.2 c7)
        have c7m := c7
        (try simp only [ByteArray.size_append, show (⟨#[67]⟩ : ByteArray).size = 1 from rfl] at c7m)
        have c7b3 := eq_true c7m
        have c7b4 := eq_false (Nat.not_lt.2 c7m)
        have c7b5 := decide_eq_true c7m
        have H' := Aside0.mk H
        clear H
        go_enter Tryd.func17, Tryd.ntmps17
        try go_wp2_with (first | ((with_reducible refine gate_dst (N := 1) rfl ?_); refine box_event ?hg (N := 1) ?hd (cs := #[.int .i64 a0_0, .slice A0_1 l0_1.length c0_1, .string a0_2, .string a0_3]) (t := 24) ?hr ?_; (case hd => rfl); (case hg => rfl); (case hr => first | (go_simp; done) | (go_simp; rfl)); intro zaf hg w8 hbox hb; have n0_ := M.upS HB hb; have n1_ := Aside0.mk (hbox); have n2_ := M.upG HB hg; have n3_ := M.upG HB hg; clear HB; have HB := n0_; have zag := n1_; have zah := n2_; have zai := n3_; clear n0_ n1_ n2_ n3_; clear hb hbox hg; have zaj : w8.cell? ⟨zaf, 0, none⟩ = some (.int .i64 a0_0) := (blk_cell zag.out 0).trans rfl; have zak : w8.cell? ⟨zaf, 1, none⟩ = some (.slice A0_1 l0_1.length c0_1) := (blk_cell zag.out 1).trans rfl; have zal : w8.cell? ⟨zaf, 2, none⟩ = some (.string a0_2) := (blk_cell zag.out 2).trans rfl; have zam : w8.cell? ⟨zaf, 3, none⟩ = some (.string a0_3) := (blk_cell zag.out 3).trans rfl; have zan := blk_frozen zag.out 0; have zao := blk_frozen zag.out 1; have zap := blk_frozen zag.out 2; have zaq := blk_frozen zag.out 3) | ((with_reducible refine gate_callee (f := 14) rfl ?_); refine M.goes (some 7) Tryd.func14 #[.agg #[.int .i64 a0_0, .slice A0_1 l0_1.length c0_1, .string a0_2, .string a0_3]] rfl ?_; (with_reducible refine (pleachref35_Is.calls a0_0 _ _ l0_1 a0_2 a0_3 true _ ?side1 ?side2 A2.out).mono ?_); (case side1 => exact M.cB HR0_1 HB); (case side2 => exact HC0_1.out); rintro e w10 ⟨rfl, hb⟩; refine ⟨_, rfl, ?_⟩; have n0_ := M.bkB zag hb; have n1_ := M.upS HB hb; clear zag HB; have zag := n0_; have HB := n1_; clear n0_ n1_; (try clear hb)))
        have n0_ := Aside0.mk (blk_drew zag.out)
        have n1_ := Aside0.mk (below_drew1 HB.out)
        clear zag HB
        have zag := n0_
        have HB := n1_
        clear n0_ n1_
        refine start_ (n := 10) (S := fun w' => w'.cell? ⟨zaf, 0, none⟩ = some (.int .i64 a0_0) ∧ w'.cell? ⟨zaf, 1, none⟩ = some (.slice A0_1 l0_1.length c0_1) ∧ w'.cell? ⟨zaf, 2, none⟩ = some (.string a0_2) ∧ w'.cell? ⟨zaf, 3, none⟩ = some (.string a0_3)) (ds := []) #[false, false, false, false, false, false, false, false, false, false] (by kernel_rfl) rfl rfl ⟨(blk_cell zag.out 0).trans rfl, (blk_cell zag.out 1).trans rfl, (blk_cell zag.out 2).trans rfl, (blk_cell zag.out 3).trans rfl⟩ (fun hHeld => ?_); refine with_tabW pleachref35_Put_p.tab3 pleachref35_Put_p.bits3 (fun HT_ HW_ => ?_)
        generalize w10.drew = w11 at zag HB hHeld ⊢
        refine pure_ (i := 0) (N := some 9) (v := ?_) (a' := ?_) #[true, false, false, false, false, false, false, false, false, false] rfl rfl (any_of HT_.out (by kernel_rfl)) (fun _ _ _ h => h) (Or.inl ⟨by rfl, ?_⟩) ?_ ?_
        rotate_left
        · intro w'
          go_simp
          with_reducible rfl
        rotate_left
        · simp only [Act.put, List.setIfInBounds_toArray, List.set_cons_zero, List.set_cons_succ, i64_w, i32_w]
          rfl
        refine pure_ (i := 4) (N := some 13) (v := ?_) (a' := ?_) #[true, false, false, false, true, false, false, false, false, false] rfl rfl (any_of HT_.out (by kernel_rfl)) (fun _ _ _ h => h) (Or.inl ⟨by rfl, ?_⟩) ?_ ?_
        rotate_left
        · intro w'
          go_simp
          with_reducible rfl
        rotate_left
        · simp only [Act.put, List.setIfInBounds_toArray, List.set_cons_zero, List.set_cons_succ, i64_w, i32_w]
          rfl
        refine take_ (i := 1) (N := some 10) (v := ?_) (a' := ?_) #[true, true, false, false, true, false, false, false, false, false] rfl rfl (take_ofW HT_.out HW_.out (by kernel_rfl)) (fun _ _ _ h => h) (Or.inl ⟨by rfl, ?_⟩) hHeld ?_ ?_
        rotate_left
        · rintro w' ⟨s0, s1, s2, s3⟩
          go_simp
          with_reducible rfl
        rotate_left
        · simp only [Act.put, List.setIfInBounds_toArray, List.set_cons_zero, List.set_cons_succ, i64_w, i32_w]
          rfl
        refine take_ (i := 5) (N := some 14) (v := ?_) (a' := ?_) #[true, true, false, false, true, true, false, false, false, false] rfl rfl (take_ofW HT_.out HW_.out (by kernel_rfl)) (fun _ _ _ h => h) (Or.inl ⟨by rfl, ?_⟩) hHeld ?_ ?_
        rotate_left
        · rintro w' ⟨s0, s1, s2, s3⟩
          go_simp
          with_reducible rfl
        rotate_left
        · simp only [Act.put, List.setIfInBounds_toArray, List.set_cons_zero, List.set_cons_succ, i64_w, i32_w]
          rfl
        refine pure_ (i := 6) (N := some 15) (v := ?_) (a' := ?_) #[true, true, false, false, true, true, true, false, false, false] rfl rfl (any_of HT_.out (by kernel_rfl)) (fun _ _ _ h => h) (Or.inl ⟨by rfl, ?_⟩) ?_ ?_
        rotate_left
        · intro w'
          go_simp
          with_reducible rfl
        rotate_left
        · simp only [Act.put, List.setIfInBounds_toArray, List.set_cons_zero, List.set_cons_succ, i64_w, i32_w]
          rfl
        refine one_ (i := 2) (N := some 11) #[true, true, true, false, true, true, true, false, false, false] rfl rfl (one_of HT_.out (by kernel_rfl)) (by decide) (fun K hK => ?_)
        refine goes_ Tryd.func42 (by kernel_rfl) rfl #[.int .i64 a0_0] (by rfl) rfl rfl (by (try simp only [List.map_toArray, List.map_cons, List.map_nil]); first | done | rfl | (simp only [List.length_drop, List.length_take]; rfl)) ?_
        with_reducible refine (pleachref04_PutNum.calls a0_0 t221 _ A4.out).mono ?_
        rintro e w12 ⟨rfl, hb⟩
        refine ⟨_, rfl, ?_⟩
        have n0_ := M.bkB zag hb
        have n1_ := M.upS HB hb
        clear zag HB
        have zag := n0_
        have HB := n1_
        clear n0_ n1_
        (try clear hb)
        (try clear hb2)
        (try clear hk)
        (try clear hi)
        refine hK.out _ _ ⟨(blk_cell zag.out 0).trans rfl, (blk_cell zag.out 1).trans rfl, (blk_cell zag.out 2).trans rfl, (blk_cell zag.out 3).trans rfl⟩ (fun hHeld => ?_)
        clear hK K
        refine norm_ (a' := ?_) ?_ ?_
        rotate_left
        · show Act.put _ (some 11) _ = _
          simp only [Act.put, List.setIfInBounds_toArray, List.set_cons_zero, List.set_cons_succ, i64_w, i32_w]
          rfl
        refine pure_ (i := 3) (N := some 12) (v := ?_) (a' := ?_) #[true, true, true, true, true, true, true, false, false, false] rfl rfl (any_of HT_.out (by kernel_rfl)) (fun _ _ _ h => h) (Or.inl ⟨by rfl, ?_⟩) ?_ ?_
        rotate_left
        · intro w'
          go_simp
          with_reducible rfl
        rotate_left
        · simp only [Act.put, List.setIfInBounds_toArray, List.set_cons_zero, List.set_cons_succ, i64_w, i32_w]
          rfl
        refine one_ (i := 7) (N := some 16) #[true, true, true, true, true, true, true, true, false, false] rfl rfl (one_of HT_.out (by kernel_rfl)) (by decide) (fun K hK => ?_)
        refine goes_ Tryd.func42 (by kernel_rfl) rfl #[.int .i64 (l0_1.length : Int)] (by rfl) rfl rfl (by (try simp only [List.map_toArray, List.map_cons, List.map_nil]); first | done | rfl | (simp only [List.length_drop, List.length_take]; rfl)) ?_
        with_reducible refine (pleachref04_PutNum.calls (l0_1.length : Int) t222 _ A6.out).mono ?_
        rintro e w13 ⟨rfl, hb⟩
        refine ⟨_, rfl, ?_⟩
        have n0_ := M.bkB zag hb
        have n1_ := M.upS HB hb
        clear zag HB
        have zag := n0_
        have HB := n1_
        clear n0_ n1_
        (try clear hb)
        (try clear hb2)
        (try clear hk)
        (try clear hi)
        refine hK.out _ _ ⟨(blk_cell zag.out 0).trans rfl, (blk_cell zag.out 1).trans rfl, (blk_cell zag.out 2).trans rfl, (blk_cell zag.out 3).trans rfl⟩ (fun hHeld => ?_)
        clear hK K
        refine norm_ (a' := ?_) ?_ ?_
        rotate_left
        · show Act.put _ (some 16) _ = _
          simp only [Act.put, List.setIfInBounds_toArray, List.set_cons_zero, List.set_cons_succ, i64_w, i32_w]
          rfl
        refine pure_ (i := 8) (N := some 17) (v := ?_) (a' := ?_) #[true, true, true, true, true, true, true, true, true, false] rfl rfl (any_of HT_.out (by kernel_rfl)) (fun _ _ _ h => h) (Or.inl ⟨by rfl, ?_⟩) ?_ ?_
        rotate_left
        · intro w'
          go_simp
          with_reducible rfl
        rotate_left
        · simp only [Act.put, List.setIfInBounds_toArray, List.set_cons_zero, List.set_cons_succ, i64_w, i32_w]
          rfl
        refine pure_ (i := 9) (N := some 3) (v := ?_) (a' := ?_) #[true, true, true, true, true, true, true, true, true, true] rfl rfl (any_of HT_.out (by kernel_rfl)) (fun _ _ _ h => h) (Or.inl ⟨by rfl, ?_⟩) ?_ ?_
        rotate_left
        · intro w'
          go_simp
          with_reducible rfl
        rotate_left
        · simp only [Act.put, List.setIfInBounds_toArray, List.set_cons_zero, List.set_cons_succ, i64_w, i32_w]
          rfl
        refine done_ (done_of HT_.out (by kernel_rfl)) ?_
        have zar : w13.cell? ⟨zaf, 0, none⟩ = some (.int .i64 a0_0) := (blk_cell zag.out 0).trans rfl
        have zas : w13.cell? ⟨zaf, 1, none⟩ = some (.slice A0_1 l0_1.length c0_1) := (blk_cell zag.out 1).trans rfl
        have zat : w13.cell? ⟨zaf, 2, none⟩ = some (.string a0_2) := (blk_cell zag.out 2).trans rfl
        have zau : w13.cell? ⟨zaf, 3, none⟩ = some (.string a0_3) := (blk_cell zag.out 3).trans rfl
        have zav := blk_frozen zag.out 0
        have zaw := blk_frozen zag.out 1
        have zax := blk_frozen zag.out 2
        have zay := blk_frozen zag.out 3
        try go_wp2
        go_loopg [3, 21] k (fun kq v3 v21 w' => ∃ (x3_1 : ByteArray) (x21_1 : Int), v3 = .string x3_1 ∧ v21 = .int .i64 x21_1 ∧ Aside0 (pleachref35_Put_p.l0 kq x3_1 l0_1 (l0_1.length : Int) x21_1 a0_0 l0_1 a0_2 a0_3 = some r) ∧ Aside0 (kq ≤ k) ∧ Aside0 (w'.heap[zaf]? = some (.cells #[.int .i64 a0_0, (.slice A0_1 l0_1.length c0_1), .string a0_2, .string a0_3] 24 (0, 0))) ∧ Aside0 (Below w.heap.size w w'))
        case atStart => exact ⟨(((⟨#[67]⟩ : ByteArray) ++ t221) ++ t222), (0), (by first | rfl | (simp; done) | (simp [*]; done) | (simp [M.isEmpty_bne]; done)), (by first | rfl | (simp; done) | (simp [*]; done) | (simp [M.isEmpty_bne]; done)), H', ⟨Nat.le_refl _⟩, ⟨by (with_reducible repeat (first | refine blk_drewN ?_ _ | refine blk_drew ?_ | refine blk_alloc ?_ _)); exact zag.out⟩, ⟨M.up HB⟩⟩
        case round =>
          clear H'
          try clear c1
          try clear p2
          try clear c3
          try clear c4
          try clear c5
          try clear c5b0
          try clear c5b1
          try clear c5b2
          try clear c7
          try clear c7b0
          try clear c7b1
          try clear c7b2
          try clear c14
          try clear zar
          try clear zas
          try clear zat
          try clear zau
          try clear zaj
          try clear zak
          try clear zal
          try clear zam
          try clear zav
          try clear zaw
          try clear zax
          try clear zay
          try clear zan
          try clear zao
          try clear zap
          try clear zaq
          obtain ⟨x3_1, x21_1, rfl, rfl, HA, HK1, zag, HB⟩ := hrel
          cases gk with
          | zero => exact absurd HA.out (by simp [pleachref35_Put_p.l0])
          | succ k1 =>
            have H := HA.out
            clear HA
            simp only [pleachref35_Put_p.l0] at H
            by_cases c15 : x21_1 < (l0_1.length : Int)
            · rw [if_pos c15] at H
              have c15b0 : decide (x21_1 < (l0_1.length : Int)) = true := decide_eq_true c15
              clear c15
              by_cases c16 : 0 ≤ x21_1
              · rw [if_pos c16] at H
                have c16b0 : decide (0 ≤ x21_1) = true := decide_eq_true c16
                clear c16
                by_cases c17 : x21_1 < (l0_1.length : Int)
                · rw [if_pos c17] at H
                  have c17b0 : decide (x21_1 < (l0_1.length : Int)) = true := decide_eq_true c17
                  clear c17
                  by_cases c18 : x3_1.size + (rdOf ByteArray.empty l0_1 x21_1).size ≤ 9223372036854775807
                  · rw [if_pos c18] at H
                    have c18b0 := eq_true c18
                    have c18b1 : decide (x3_1.size + (rdOf ByteArray.empty l0_1 x21_1).size ≤ 9223372036854775807) = true := decide_eq_true c18
                    try have c18b2 : (9223372036854775807 < x3_1.size + (rdOf ByteArray.empty l0_1 x21_1).size) = False := eq_false (Nat.not_lt.2 c18)
                    have H' := Aside0.mk H
                    clear H
                    have p223 : 0 ≤ (x21_1 : Int) := of_decide_eq_true (by first | (with_reducible assumption) | assumption)
                    have q223 : x21_1 < (l0_1.length : Int) := of_decide_eq_true (by first | (with_reducible assumption) | assumption)
                    obtain ⟨ad223, e223, hx223_0⟩ := Kd.at_string HR0_1.out x21_1 p223 q223
                    cases e223
                    replace hx223_0 := (HB.out.cell (World.block_lt_of_cell? w _ hx223_0)).trans hx223_0
                    replace p223 := eq_true p223
                    replace q223 := eq_true q223
                    go_wp2
                    go_roundg k1
                    case measure => have := HK1.out; omega
                    case rel => exact ⟨(x3_1 ++ (rdOf ByteArray.empty l0_1 x21_1)), (wrap64 (x21_1 + 1)), (by first | rfl | (simp; done) | (simp [*]; done) | (simp [M.isEmpty_bne]; done)), (by first | rfl | (simp; done) | (simp [*]; done) | (simp [M.isEmpty_bne]; done)), H', ⟨by have := HK1.out; omega⟩, ⟨by (with_reducible repeat (first | refine blk_drewN ?_ _ | refine blk_drew ?_ | refine blk_alloc ?_ _)); exact zag.out⟩, ⟨M.up HB⟩⟩
                  · rw [if_neg c18] at H
                    exact absurd H (by simp)
                · rw [if_neg c17] at H
                  exact absurd H (by simp)
              · rw [if_neg c16] at H
                exact absurd H (by simp)
            · rw [if_neg c15] at H
              have c15b0 : decide (x21_1 < (l0_1.length : Int)) = false := decide_eq_false c15
              clear c15
              by_cases c19 : x3_1.size + a0_2.size ≤ 9223372036854775807
              · rw [if_pos c19] at H
                have c19b0 := eq_true c19
                have c19b1 : decide (x3_1.size + a0_2.size ≤ 9223372036854775807) = true := decide_eq_true c19
                try have c19b2 : (9223372036854775807 < x3_1.size + a0_2.size) = False := eq_false (Nat.not_lt.2 c19)
                replace H := Option.bind_eq_some_iff.mp H
                obtain ⟨t224, A200, H⟩ := H
                replace H : (if (x3_1 ++ a0_2).size + t224.size ≤ 9223372036854775807 then (some ((x3_1 ++ a0_2) ++ t224)) else (none)) = some r := H
                have A20 := Aside0.mk A200
                clear A200
                by_cases c21 : (x3_1 ++ a0_2).size + t224.size ≤ 9223372036854775807
                · rw [if_pos c21] at H
                  have c21b0 := eq_true c21
                  have c21b1 : decide ((x3_1 ++ a0_2).size + t224.size ≤ 9223372036854775807) = true := decide_eq_true c21
                  try have c21b2 : (9223372036854775807 < (x3_1 ++ a0_2).size + t224.size) = False := eq_false (Nat.not_lt.2 c21)
                  have c21m := c21
                  (try simp only [ByteArray.size_append] at c21m)
                  have c21b3 := eq_true c21m
                  have c21b4 := eq_false (Nat.not_lt.2 c21m)
                  have c21b5 := decide_eq_true c21m
                  obtain rfl := Option.some.inj H
                  try go_wp2
                  have n0_ := Aside0.mk (blk_drew zag.out)
                  have n1_ := Aside0.mk (below_drew1 HB.out)
                  clear zag HB
                  have zag := n0_
                  have HB := n1_
                  clear n0_ n1_
                  refine start_ (n := 9) (S := fun w' => w'.cell? ⟨zaf, 0, none⟩ = some (.int .i64 a0_0) ∧ w'.cell? ⟨zaf, 1, none⟩ = some (.slice A0_1 l0_1.length c0_1) ∧ w'.cell? ⟨zaf, 2, none⟩ = some (.string a0_2) ∧ w'.cell? ⟨zaf, 3, none⟩ = some (.string a0_3)) (ds := []) #[false, false, false, false, false, false, false, false, false] (by kernel_rfl) rfl rfl ⟨(blk_cell zag.out 0).trans rfl, (blk_cell zag.out 1).trans rfl, (blk_cell zag.out 2).trans rfl, (blk_cell zag.out 3).trans rfl⟩ (fun hHeld => ?_); refine with_tabW pleachref35_Put_p.tab9 pleachref35_Put_p.bits9 (fun HT_ HW_ => ?_)
                  generalize wr.drew = w22 at zag HB hHeld ⊢
                  refine pure_ (i := 0) (N := some 29) (v := ?_) (a' := ?_) #[true, false, false, false, false, false, false, false, false] rfl rfl (any_of HT_.out (by kernel_rfl)) (fun _ _ _ h => h) (Or.inl ⟨by rfl, ?_⟩) ?_ ?_
                  rotate_left
                  · intro w'
                    go_simp
                    with_reducible rfl
                  rotate_left
                  · simp only [Act.put, List.setIfInBounds_toArray, List.set_cons_zero, List.set_cons_succ, i64_w, i32_w]
                    rfl
                  refine pure_ (i := 1) (N := some 30) (v := ?_) (a' := ?_) #[true, true, false, false, false, false, false, false, false] rfl rfl (any_of HT_.out (by kernel_rfl)) (fun _ _ _ h => h) (Or.inl ⟨by rfl, ?_⟩) ?_ ?_
                  rotate_left
                  · intro w'
                    go_simp
                    with_reducible rfl
                  rotate_left
                  · simp only [Act.put, List.setIfInBounds_toArray, List.set_cons_zero, List.set_cons_succ, i64_w, i32_w]
                    rfl
                  refine pure_ (i := 4) (N := some 33) (v := ?_) (a' := ?_) #[true, true, false, false, true, false, false, false, false] rfl rfl (any_of HT_.out (by kernel_rfl)) (fun _ _ _ h => h) (Or.inl ⟨by rfl, ?_⟩) ?_ ?_
                  rotate_left
                  · intro w'
                    go_simp
                    with_reducible rfl
                  rotate_left
                  · simp only [Act.put, List.setIfInBounds_toArray, List.set_cons_zero, List.set_cons_succ, i64_w, i32_w]
                    rfl
                  refine take_ (i := 2) (N := some 31) (v := ?_) (a' := ?_) #[true, true, true, false, true, false, false, false, false] rfl rfl (take_ofW HT_.out HW_.out (by kernel_rfl)) (fun _ _ _ h => h) (Or.inl ⟨by rfl, ?_⟩) hHeld ?_ ?_
                  rotate_left
                  · rintro w' ⟨s0, s1, s2, s3⟩
                    go_simp
                    with_reducible rfl
                  rotate_left
                  · simp only [Act.put, List.setIfInBounds_toArray, List.set_cons_zero, List.set_cons_succ, i64_w, i32_w]
                    rfl
                  refine pure_ (i := 3) (N := some 32) (v := ?_) (a' := ?_) #[true, true, true, true, true, false, false, false, false] rfl rfl (any_of HT_.out (by kernel_rfl)) (fun _ _ _ h => h) (Or.inl ⟨by rfl, ?_⟩) ?_ ?_
                  rotate_left
                  · intro w'
                    go_simp
                    with_reducible rfl
                  rotate_left
                  · simp only [Act.put, List.setIfInBounds_toArray, List.set_cons_zero, List.set_cons_succ, i64_w, i32_w]
                    rfl
                  refine take_ (i := 5) (N := some 34) (v := ?_) (a' := ?_) #[true, true, true, true, true, true, false, false, false] rfl rfl (take_ofW HT_.out HW_.out (by kernel_rfl)) (fun _ _ _ h => h) (Or.inl ⟨by rfl, ?_⟩) hHeld ?_ ?_
                  rotate_left
                  · rintro w' ⟨s0, s1, s2, s3⟩
                    go_simp
                    with_reducible rfl
                  rotate_left
                  · simp only [Act.put, List.setIfInBounds_toArray, List.set_cons_zero, List.set_cons_succ, i64_w, i32_w]
                    rfl
                  refine one_ (i := 6) (N := some 35) #[true, true, true, true, true, true, true, false, false] rfl rfl (one_of HT_.out (by kernel_rfl)) (by decide) (fun K hK => ?_)
                  refine goes_ Tryd.func43 (by kernel_rfl) rfl #[.string a0_3] (by rfl) rfl rfl (by (try simp only [List.map_toArray, List.map_cons, List.map_nil]); first | done | rfl | (simp only [List.length_drop, List.length_take]; rfl)) ?_
                  with_reducible refine (pleachref04_PutText.calls a0_3 t224 _ A20.out).mono ?_
                  rintro e w23 ⟨rfl, hb⟩
                  refine ⟨_, rfl, ?_⟩
                  have n0_ := M.bkB zag hb
                  have n1_ := M.upS HB hb
                  clear zag HB
                  have zag := n0_
                  have HB := n1_
                  clear n0_ n1_
                  (try clear hb)
                  (try clear hb2)
                  (try clear hk)
                  (try clear hi)
                  refine hK.out _ _ ⟨(blk_cell zag.out 0).trans rfl, (blk_cell zag.out 1).trans rfl, (blk_cell zag.out 2).trans rfl, (blk_cell zag.out 3).trans rfl⟩ (fun hHeld => ?_)
                  clear hK K
                  refine norm_ (a' := ?_) ?_ ?_
                  rotate_left
                  · show Act.put _ (some 35) _ = _
                    simp only [Act.put, List.setIfInBounds_toArray, List.set_cons_zero, List.set_cons_succ, i64_w, i32_w]
                    rfl
                  refine pure_ (i := 7) (N := some 36) (v := ?_) (a' := ?_) #[true, true, true, true, true, true, true, true, false] rfl rfl (any_of HT_.out (by kernel_rfl)) (fun _ _ _ h => h) (Or.inl ⟨by rfl, ?_⟩) ?_ ?_
                  rotate_left
                  · intro w'
                    go_simp
                    with_reducible rfl
                  rotate_left
                  · simp only [Act.put, List.setIfInBounds_toArray, List.set_cons_zero, List.set_cons_succ, i64_w, i32_w]
                    rfl
                  refine pure_ (i := 8) (N := some 2) (v := ?_) (a' := ?_) #[true, true, true, true, true, true, true, true, true] rfl rfl (any_of HT_.out (by kernel_rfl)) (fun _ _ _ h => h) (Or.inl ⟨by rfl, ?_⟩) ?_ ?_
                  rotate_left
                  · intro w'
                    go_simp
                    with_reducible rfl
                  rotate_left
                  · simp only [Act.put, List.setIfInBounds_toArray, List.set_cons_zero, List.set_cons_succ, i64_w, i32_w]
                    rfl
                  refine done_ (done_of HT_.out (by kernel_rfl)) ?_
                  try go_wp2
                  go_ret
                  exact M.fin (M.up HB)
                · rw [if_neg c21] at H
                  exact absurd H (by simp)
              · rw [if_neg c19] at H
                exact absurd H (by simp)
      · rw [if_neg c7] at H
        exact absurd H (by simp)
    · rw [if_neg c5] at H
      exact absurd H (by simp)
  · replace c3 := Bool.eq_false_iff.mpr c3
    subst c3
    have H1 : (some (⟨#[]⟩ : ByteArray)) = some r := by rw [if_neg (show ¬ (false = true) by decide)] at H; exact H
    clear H
    have H := H1
    clear H1
    obtain rfl := Option.some.inj H
    go_enter Tryd.func17, Tryd.ntmps17
    go_wp2_with (first | ((with_reducible refine gate_dst (N := 1) rfl ?_); refine box_event ?hg (N := 1) ?hd (cs := #[.int .i64 a0_0, .slice A0_1 l0_1.length c0_1, .string a0_2, .string a0_3]) (t := 24) ?hr ?_; (case hd => rfl); (case hg => rfl); (case hr => first | (go_simp; done) | (go_simp; rfl)); intro zaf hg w24 hbox hb; have n0_ := M.upS HB hb; have n1_ := Aside0.mk (hbox); have n2_ := M.upG HB hg; have n3_ := M.upG HB hg; clear HB; have HB := n0_; have zag := n1_; have zah := n2_; have zai := n3_; clear n0_ n1_ n2_ n3_; clear hb hbox hg; have zaz : w24.cell? ⟨zaf, 0, none⟩ = some (.int .i64 a0_0) := (blk_cell zag.out 0).trans rfl; have zaA : w24.cell? ⟨zaf, 1, none⟩ = some (.slice A0_1 l0_1.length c0_1) := (blk_cell zag.out 1).trans rfl; have zaB : w24.cell? ⟨zaf, 2, none⟩ = some (.string a0_2) := (blk_cell zag.out 2).trans rfl; have zaC : w24.cell? ⟨zaf, 3, none⟩ = some (.string a0_3) := (blk_cell zag.out 3).trans rfl; have zaD := blk_frozen zag.out 0; have zaE := blk_frozen zag.out 1; have zaF := blk_frozen zag.out 2; have zaG := blk_frozen zag.out 3) | ((with_reducible refine gate_callee (f := 14) rfl ?_); refine M.goes (some 7) Tryd.func14 #[.agg #[.int .i64 a0_0, .slice A0_1 l0_1.length c0_1, .string a0_2, .string a0_3]] rfl ?_; (with_reducible refine (pleachref35_Is.calls a0_0 _ _ l0_1 a0_2 a0_3 false _ ?side1 ?side2 A2.out).mono ?_); (case side1 => exact M.cB HR0_1 HB); (case side2 => exact HC0_1.out); rintro e w26 ⟨rfl, hb⟩; refine ⟨_, rfl, ?_⟩; have n0_ := M.bkB zag hb; have n1_ := M.upS HB hb; clear zag HB; have zag := n0_; have HB := n1_; clear n0_ n1_; (try clear hb)))
    go_ret
    exact M.fin (M.up HB)

-- this session's own plain form
def pleachref35_Put.f (a0_0 : Int) (l0_1 : List ByteArray) (a0_2 : ByteArray) (a0_3 : ByteArray) : Option ByteArray := some (if M.isC a0_0 l0_1 a0_2 a0_3 then M.sb (M.cput a0_0 l0_1 a0_2 a0_3) else ⟨#[]⟩)
theorem pleachref35_Put.loop (n : Int) (ps : List ByteArray) (g note : ByteArray) (hl : ps.length ≤ 2) (hp : ∀ p ∈ ps, p.size = 32) (hg : g.size = 32) (hn : note.size ≤ 40) (d : Nat) : ∀ (i : Nat) (out : ByteArray), i + d = ps.length → out.size ≤ 100 + 32 * i →
    pleachref35_Put_p.l0 (d + 1) out ps (ps.length : Int) (i : Int) n ps g note = some (out ++ M.sb ((ps.drop i).flatMap M.bs ++ (M.bs g ++ (M.vb note.size ++ M.bs note)))) := by
  have hv := M.vb_le note.size (by omega)
  have hv2 : (M.sb (M.vb note.size)).size ≤ 10 := by rw [M.size_sb]; exact hv
  have ht : pleachref04_PutText.f note = some (M.sb (M.vb note.size) ++ note) := if_pos (by omega)
  induction d with
  | zero =>
    intro i out hi ho
    rw [pleachref35_Put_p.l0, if_neg (by omega), if_pos (by omega), ht, Option.bind_some, if_pos (by simp only [M.size_append]; omega), List.drop_of_length_le (by omega)]
    congr 1
    apply M.bs_inj
    simp only [M.bs_append, M.bs_sb, List.flatMap_nil, List.nil_append, List.append_assoc]
  | succ d ih =>
    intro i out hi ho
    have h1 : i < ps.length := by omega
    have r1 : rdOf ByteArray.empty ps (i : Int) = ps[i] := by simp [rdOf, List.getD, h1]
    have hz := hp ps[i] (List.getElem_mem h1)
    have hsz : (out ++ ps[i]).size ≤ 100 + 32 * (i + 1) := by rw [M.size_append, hz]; omega
    rw [pleachref35_Put_p.l0, if_pos (by omega), if_pos (by omega), if_pos (by omega), r1, if_pos (by omega), M.wrap64_id (by omega) (by omega), show (i : Int) + 1 = ((i + 1 : Nat) : Int) from by omega, ih (i + 1) _ (by omega) hsz, List.drop_eq_getElem_cons h1]
    congr 1
    apply M.bs_inj
    simp only [M.bs_append, M.bs_sb, List.flatMap_cons, List.append_assoc]
theorem pleachref35_Put.ev (n : Int) (ps : List ByteArray) (g note : ByteArray) (r : ByteArray) (h : pleachref35_Put.f n ps g note = some r) : ∃ k, pleachref35_Put_p.f k n ps g note = some r := by
  unfold pleachref35_Put.f at h
  obtain rfl := Option.some.inj h
  refine ⟨ps.length + 1, ?_⟩
  unfold pleachref35_Put_p.f pleachref35_Is.f
  rw [Option.bind_some]
  by_cases hc : M.isC n ps g note
  · obtain ⟨⟨hn0, hn1⟩, hp2, hg, hnote, hps, _⟩ := id hc
    have hv := M.vb_le n.toNat (by omega)
    have hv2 := M.vb_le ps.length (by omega)
    have e1 : pleachref04_PutNum.f n = some (M.sb (M.vb n.toNat)) := if_pos (by omega)
    have e2 : pleachref04_PutNum.f (ps.length : Int) = some (M.sb (M.vb ps.length)) := by
      have : pleachref04_PutNum.f (ps.length : Int) = some (M.sb (M.vb (ps.length : Int).toNat)) := if_pos (by omega)
      rw [this, Int.toNat_natCast]
    have e3 : (⟨#[67]⟩ : ByteArray) = M.sb [67] := rfl
    rw [if_pos (decide_eq_true hc), e1, Option.bind_some, e3, if_pos (by rw [M.size_sb]; omega), e2, Option.bind_some, if_pos (by rw [M.size_append, M.size_sb, M.size_sb, M.size_sb]; simp only [List.length_cons, List.length_nil]; omega)]
    have := pleachref35_Put.loop n ps g note hp2 hps hg hnote ps.length 0 (M.sb [67] ++ M.sb (M.vb n.toNat) ++ M.sb (M.vb ps.length)) (by omega) (by rw [M.size_append, M.size_append, M.size_sb, M.size_sb, M.size_sb]; simp only [List.length_cons, List.length_nil]; omega)
    rw [show ((0 : Nat) : Int) = 0 from rfl] at this
    rw [this, if_pos hc]
    congr 1
    apply M.bs_inj
    simp only [M.bs_append, M.bs_sb, M.cput, List.drop_zero, List.append_assoc]
  · rw [if_neg (by simp [hc]), if_neg hc]
theorem pleachref35_Put.calls (a0_0 : Int) (A0_1 : Option Addr) (c0_1 : Nat) (l0_1 : List ByteArray) (a0_2 : ByteArray) (a0_3 : ByteArray) (r : ByteArray) (w : World) (hr0_1 : Kd.C Kd.string w A0_1 l0_1.length l0_1) (hc0_1 : l0_1.length ≤ c0_1) (h : pleachref35_Put.f a0_0 l0_1 a0_2 a0_3 = some r) :
    Calls Tryd.prog 17 #[.agg #[.int .i64 a0_0, .slice A0_1 l0_1.length c0_1, .string a0_2, .string a0_3]] w fun e w' => e = .returned (.string r) ∧ Below w.heap.size w w' := by
  obtain ⟨k, hk⟩ := pleachref35_Put.ev _ _ _ _ _ h
  exact pleachref35_Put_p.calls (k := k) (w := w) (h := hk) (hr0_1 := hr0_1) (hc0_1 := hc0_1)

/-! ### shelf_Shelf_Len: function 19 -/
theorem shelf_Shelf_Len.calls (base g B : Nat) (D : DataW Unit) (vt vn : Value) (ts : List ByteArray) (a b : ByteArray) (w : World) (hS : M.shelf Tryd.prog base w g B D vt vn ts a b) :
    Calls Tryd.prog 19 #[.pointer (some ⟨g, 0, none⟩)] w fun e w' => e = .returned (.int .i64 (ts.length : Int)) ∧ w = w' := by
  obtain ⟨A, c, rfl⟩ := own_slice hS.rt
  have c1 : w.cell? ⟨g, 1, none⟩ = some (.slice A ts.length c) := M.blk_cell hS.blk 1 _ rfl
  have HS := Aside0.mk hS
  clear hS
  go_enter Tryd.func19, Tryd.ntmps19
  go_wp2_with (first | (go_at_call 44; (with_reducible refine (shelf_Shelf_there.calls base g B D _ vn ts a b _ HS.out).mono ?_); rintro e w1 ⟨rfl, rfl⟩))
  go_ret
  exact ⟨rfl, rfl⟩
theorem shelf_Shelf_Len.any (base g : Nat) (F : Nat → Prop) (s : M.SS) (w : World) (hS : M.Sh Tryd.prog base w g F s) :
    Calls Tryd.prog 19 #[.pointer (some ⟨g, 0, none⟩)] w fun e w' => e = .returned (.int .i64 (s.ts.length : Int)) ∧ w = w' := by
  obtain ⟨B, D, vt, vn, hs, hF, hl⟩ := hS
  exact shelf_Shelf_Len.calls base g B D vt vn s.ts s.a s.b w hs

end Go.Proofs.YtikdbklmhjlfoaaDoor.ECommitPuts
