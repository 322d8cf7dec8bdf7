-- Written by this session's own program (wip/tools/ext.py) for this claim; Lean checks it.
import Derived.Test.YtikdbklmhjlfoaaDoorECommitPutsx0
namespace Go.Proofs.YtikdbklmhjlfoaaDoor.ECommitPuts
open Go.RowKit Go.Proofs.YtikdbklmhjlfoaaDoorW.PrintWords Go.Proofs.YtikdbklmhjlfoaaDoorW.PrintLast Go.Proofs.YtikdbklmhjlfoaaDoorW.PrintMore
attribute [local go_sem] M.run_leq M.run_gtr M.run_geq max2_int min2_int max_two min_two max_three min_three max_four min_four   -- for this text's walks alone
set_option linter.unusedVariables false
set_option linter.unusedSimpArgs false

/-! ### pleachplain_Bytes_p: function 21 -/
def pleachplain_Bytes_p.l0 : Nat → Int → List ByteArray → Int → Int → Option (Int)
  | 0, _, _, _, _ => none
  | k + 1, x3, x6, x7, x8 => if x8 < x7 then (if 0 ≤ x8 then (if x8 < (x6.length : Int) then (if (wrap64 (x3 + (mn ((rdOf ByteArray.empty x6 x8).size : Int) 1000000))) ≥ 1000000 then (some (wrap64 (x3 + (mn ((rdOf ByteArray.empty x6 x8).size : Int) 1000000)))) else (pleachplain_Bytes_p.l0 k (wrap64 (x3 + (mn ((rdOf ByteArray.empty x6 x8).size : Int) 1000000))) x6 x7 (wrap64 (x8 + 1)))) else (none)) else (none)) else (some x3)
def pleachplain_Bytes_p.f (k : Nat) (l0 : List ByteArray) : Option (Int) := pleachplain_Bytes_p.l0 k 0 l0 (l0.length : Int) 0
theorem pleachplain_Bytes_p.mono_l : ∀ k, (∀ y0 y1 y2 y3, LeO (pleachplain_Bytes_p.l0 k y0 y1 y2 y3) (pleachplain_Bytes_p.l0 (k + 1) y0 y1 y2 y3))
  | 0 => fun _ _ _ _ r h => by simp [pleachplain_Bytes_p.l0] at h
  | k + 1 => by
    have ih0 := pleachplain_Bytes_p.mono_l k
    · intro y0 y1 y2 y3
      unfold pleachplain_Bytes_p.l0
      repeat' first
      | (with_reducible exact ih0 _ _ _ _)
      | (with_reducible exact LeO.refl _)
      | (with_reducible exact LeO.none _)
      | (with_reducible refine LeO.ite ?_ ?_)
      | (with_reducible refine LeO.bind ?_ (fun _ => ?_))
      | exact ih0 _ _ _ _
      | exact LeO.none _
      | refine LeO.ite ?_ ?_
      | refine LeO.bind ?_ (fun _ => ?_)
theorem pleachplain_Bytes_p.mono : ∀ a0 k, LeO (pleachplain_Bytes_p.f k a0) (pleachplain_Bytes_p.f (k + 1) a0) := by
  intro a0 k
  have ih0 := pleachplain_Bytes_p.mono_l k
  unfold pleachplain_Bytes_p.f
  repeat' first
      | (with_reducible exact ih0 _ _ _ _)
      | (with_reducible exact LeO.refl _)
      | (with_reducible exact LeO.none _)
      | (with_reducible refine LeO.ite ?_ ?_)
      | (with_reducible refine LeO.bind ?_ (fun _ => ?_))
      | exact ih0 _ _ _ _
      | exact LeO.none _
      | refine LeO.ite ?_ ?_
      | refine LeO.bind ?_ (fun _ => ?_)
set_option maxHeartbeats 8000000 in
set_option maxRecDepth 100000 in
theorem pleachplain_Bytes_p.calls (k : Nat) (A0 : Option Addr) (c0 : Nat) (l0 : List ByteArray) (r : Int) (w : World) (hr0 : Kd.C Kd.string w A0 l0.length l0) (hc0 : l0.length ≤ c0) (h : pleachplain_Bytes_p.f k l0 = some r) :
    Calls Tryd.prog 21 #[.slice A0 l0.length c0] w fun e w' => e = .returned (.int .i64 r) ∧ Below w.heap.size w w' := by
  have HR0 := Aside0.mk hr0
  have HC0 := Aside0.mk hc0
  clear hr0 hc0
  have HB := Aside0.mk (Below.refl w.heap.size w)
  have H : (pleachplain_Bytes_p.l0 k 0 l0 (l0.length : Int) 0) = some r := h
  clear h
  have H' := Aside0.mk H
  clear H
  go_enter Tryd.func21, Tryd.ntmps21
  go_wp2
  go_loopg [3, 8] k (fun kq v3 v8 w' => ∃ (x3_1 : Int) (x8_1 : Int), v3 = .int .i64 x3_1 ∧ v8 = .int .i64 x8_1 ∧ Aside0 (pleachplain_Bytes_p.l0 kq x3_1 l0 (l0.length : Int) x8_1 = some r) ∧ Aside0 (kq ≤ k) ∧ Aside0 (Below w.heap.size w w'))
  case atStart => exact ⟨(0), (0), (by first | rfl | (simp; done) | (simp [*]; done) | (simp [M.isEmpty_bne]; done)), (by first | rfl | (simp; done) | (simp [*]; done) | (simp [M.isEmpty_bne]; done)), H', ⟨Nat.le_refl _⟩, ⟨M.up HB⟩⟩
  case round =>
    clear H'
    obtain ⟨x3_1, x8_1, rfl, rfl, HA, HK1, HB⟩ := hrel
    cases gk with
    | zero => exact absurd HA.out (by simp [pleachplain_Bytes_p.l0])
    | succ k1 =>
      have H := HA.out
      clear HA
      simp only [pleachplain_Bytes_p.l0] at H
      by_cases c2 : x8_1 < (l0.length : Int)
      · rw [if_pos c2] at H
        have c2b0 : decide (x8_1 < (l0.length : Int)) = true := decide_eq_true c2
        clear c2
        by_cases c3 : 0 ≤ x8_1
        · rw [if_pos c3] at H
          have c3b0 : decide (0 ≤ x8_1) = true := decide_eq_true c3
          clear c3
          by_cases c4 : x8_1 < (l0.length : Int)
          · rw [if_pos c4] at H
            have c4b0 : decide (x8_1 < (l0.length : Int)) = true := decide_eq_true c4
            clear c4
            obtain ⟨ji5, hji5⟩ : ∃ j_ : Int, (mn ((rdOf ByteArray.empty l0 x8_1).size : Int) 1000000) = j_ := ⟨_, rfl⟩
            replace H : (if (wrap64 (x3_1 + (ji5))) ≥ 1000000 then (some (wrap64 (x3_1 + (ji5)))) else (pleachplain_Bytes_p.l0 k1 (wrap64 (x3_1 + (ji5))) l0 (l0.length : Int) (wrap64 (x8_1 + 1)))) = some r := by first | (rw [hji5] at H; exact H) | (simp only [hji5] at H ⊢; exact H)
            have hji5_ : (if 1000000 < ((rdOf ByteArray.empty l0 x8_1).size : Int) then 1000000 else ((rdOf ByteArray.empty l0 x8_1).size : Int)) = ji5 := hji5
            by_cases c6 : (wrap64 (x3_1 + (ji5))) ≥ 1000000
            · rw [if_pos c6] at H
              have c6b0 : decide (1000000 ≤ (wrap64 (x3_1 + (ji5)))) = true := decide_eq_true c6
              clear c6
              obtain rfl := Option.some.inj H
              have p101 : 0 ≤ (x8_1 : Int) := of_decide_eq_true (by first | (with_reducible assumption) | assumption)
              have q101 : x8_1 < (l0.length : Int) := of_decide_eq_true (by first | (with_reducible assumption) | assumption)
              obtain ⟨ad101, e101, hx101_0⟩ := Kd.at_string HR0.out x8_1 p101 q101
              cases e101
              replace hx101_0 := (HB.out.cell (World.block_lt_of_cell? w _ hx101_0)).trans hx101_0
              replace p101 := eq_true p101
              replace q101 := eq_true q101
              go_wp2
              go_ret
              exact ⟨by first | rfl | (simp [errW_none, errW_some] <;> rfl) | (simp only [← hji5]; first | rfl | (simp [errW_none, errW_some] <;> rfl)) | (simp [*, errW_none, errW_some] <;> rfl), M.up HB⟩
            · rw [if_neg c6] at H
              have c6b0 : decide (1000000 ≤ (wrap64 (x3_1 + (ji5)))) = false := decide_eq_false c6
              clear c6
              have H' := Aside0.mk H
              clear H
              have p101 : 0 ≤ (x8_1 : Int) := of_decide_eq_true (by first | (with_reducible assumption) | assumption)
              have q101 : x8_1 < (l0.length : Int) := of_decide_eq_true (by first | (with_reducible assumption) | assumption)
              obtain ⟨ad101, e101, hx101_0⟩ := Kd.at_string HR0.out x8_1 p101 q101
              cases e101
              replace hx101_0 := (HB.out.cell (World.block_lt_of_cell? w _ hx101_0)).trans hx101_0
              replace p101 := eq_true p101
              replace q101 := eq_true q101
              go_wp2
              go_roundg k1
              case measure => have := HK1.out; omega
              case rel => exact ⟨(wrap64 (x3_1 + (ji5))), (wrap64 (x8_1 + 1)), (by first | rfl | (simp; done) | (simp only [← hji5] <;> (first | rfl | simp)) | (simp [*]; done)), (by first | rfl | (simp; done) | (simp [*]; done) | (simp [M.isEmpty_bne]; done)), H', ⟨by have := HK1.out; omega⟩, ⟨M.up HB⟩⟩
          · rw [if_neg c4] at H
            exact absurd H (by simp)
        · rw [if_neg c3] at H
          exact absurd H (by simp)
      · rw [if_neg c2] at H
        have c2b0 : decide (x8_1 < (l0.length : Int)) = false := decide_eq_false c2
        clear c2
        obtain rfl := Option.some.inj H
        go_wp2
        go_ret
        exact M.fin (M.up HB)

-- this session's own plain form
def pleachplain_Bytes.f (l0 : List ByteArray) : Option Int := if l0.length ≤ 9223372036854775806 then some ((M.bytesN 0 l0 : Nat) : Int) else none
theorem pleachplain_Bytes.loop (l : List ByteArray) (hl : l.length ≤ 9223372036854775806) (d : Nat) : ∀ (i n : Nat), i + d = l.length → n < 1000000 →
    pleachplain_Bytes_p.l0 (d + 1) (n : Int) l (l.length : Int) (i : Int) = some ((M.bytesN n (l.drop i) : Nat) : Int) := by
  induction d with
  | zero =>
    intro i n hi hn
    rw [pleachplain_Bytes_p.l0, if_neg (by omega), List.drop_of_length_le (by omega)]; rfl
  | succ d ih =>
    intro i n hi hn
    have hlt : i < l.length := by omega
    have hrd : rdOf ByteArray.empty l (i : Int) = l[i] := by simp [rdOf, List.getD, hlt]
    have hm : mn ((l[i]).size : Int) 1000000 = ((min (l[i]).size 1000000 : Nat) : Int) := M.mn_min _ 1000000
    rw [pleachplain_Bytes_p.l0, if_pos (by omega), if_pos (by omega), if_pos (by omega), hrd, hm, List.drop_eq_getElem_cons hlt, M.bytesN, M.wrap64_id (i := (n : Int) + _) (by omega) (by omega)]
    by_cases h : 1000000 ≤ n + min (l[i]).size 1000000
    · rw [if_pos (by omega), if_pos h]; congr 1
    · rw [if_neg (by omega), if_neg h, M.wrap64_id (by omega) (by omega), show (i : Int) + 1 = ((i + 1 : Nat) : Int) from by omega, show (n : Int) + ((min (l[i]).size 1000000 : Nat) : Int) = ((n + min (l[i]).size 1000000 : Nat) : Int) from by omega]
      exact ih (i + 1) _ (by omega) (by omega)
theorem pleachplain_Bytes.ev (l : List ByteArray) (r : Int) (h : pleachplain_Bytes.f l = some r) : ∃ k, pleachplain_Bytes_p.f k l = some r := by
  unfold pleachplain_Bytes.f at h
  split at h
  case isFalse => cases h
  case isTrue hh =>
    refine ⟨l.length + 1, ?_⟩
    rw [← h]
    have := pleachplain_Bytes.loop l hh l.length 0 0 (by omega) (by decide)
    rw [List.drop_zero] at this
    exact this
theorem pleachplain_Bytes.calls (A0 : Option Addr) (c0 : Nat) (l0 : List ByteArray) (r : Int) (w : World) (hr0 : Kd.C Kd.string w A0 l0.length l0) (hc0 : l0.length ≤ c0) (h : pleachplain_Bytes.f l0 = some r) :
    Calls Tryd.prog 21 #[.slice A0 l0.length c0] w fun e w' => e = .returned (.int .i64 r) ∧ Below w.heap.size w w' := by
  obtain ⟨k, hk⟩ := pleachplain_Bytes.ev _ _ h
  exact pleachplain_Bytes_p.calls (k := k) (w := w) (h := hk) (hr0 := hr0) (hc0 := hc0)

/-! ### pleachlaw35_few: function 7 -/
def pleachlaw35_few.f (a0_0 : Int) (l0_1 : List ByteArray) (a0_2 : ByteArray) (a0_3 : ByteArray) : Option (Bool) := if (l0_1.length : Int) ≤ 5 then ((pleachplain_Bytes.f l0_1).bind fun t103 => (if t103 ≤ 500 then (if (a0_2.size : Int) ≤ 200 then (some (decide ((a0_3.size : Int) ≤ 200))) else (some false)) else (some false))) else (some false)
set_option maxHeartbeats 8000000 in
set_option maxRecDepth 100000 in
theorem pleachlaw35_few.calls (a0_0 : Int) (A0_1 : Option Addr) (c0_1 : Nat) (l0_1 : List ByteArray) (a0_2 : ByteArray) (a0_3 : ByteArray) (r : Bool) (w : World) (hr0_1 : Kd.C Kd.string w A0_1 l0_1.length l0_1) (hc0_1 : l0_1.length ≤ c0_1) (h : pleachlaw35_few.f a0_0 l0_1 a0_2 a0_3 = some r) :
    Calls Tryd.prog 7 #[.agg #[.int .i64 a0_0, .slice A0_1 l0_1.length c0_1, .string a0_2, .string a0_3]] w fun e w' => e = .returned (.bool r) ∧ Below w.heap.size w w' := by
  have hu24 := Tryd.underlying24
  have HR0_1 := Aside0.mk hr0_1
  have HC0_1 := Aside0.mk hc0_1
  clear hr0_1 hc0_1
  have HB := Aside0.mk (Below.refl w.heap.size w)
  have H : (if (l0_1.length : Int) ≤ 5 then ((pleachplain_Bytes.f l0_1).bind fun t103 => (if t103 ≤ 500 then (if (a0_2.size : Int) ≤ 200 then (some (decide ((a0_3.size : Int) ≤ 200))) else (some false)) else (some false))) else (some false)) = some r := h
  clear h
  by_cases c2 : (l0_1.length : Int) ≤ 5
  · rw [if_pos c2] at H
    have c2b0 : decide ((l0_1.length : Int) ≤ 5) = true := decide_eq_true c2
    have c2b1 : decide (l0_1.length ≤ 5) = true := decide_eq_true (by omega)
    clear c2
    replace H := Option.bind_eq_some_iff.mp H
    obtain ⟨t103, A30, H⟩ := H
    replace H : (if t103 ≤ 500 then (if (a0_2.size : Int) ≤ 200 then (some (decide ((a0_3.size : Int) ≤ 200))) else (some false)) else (some false)) = some r := H
    have A3 := Aside0.mk A30
    clear A30
    by_cases c4 : t103 ≤ 500
    · rw [if_pos c4] at H
      have c4b0 : decide (t103 ≤ 500) = true := decide_eq_true c4
      clear c4
      by_cases c5 : (a0_2.size : Int) ≤ 200
      · rw [if_pos c5] at H
        have c5b0 : decide ((a0_2.size : Int) ≤ 200) = true := decide_eq_true c5
        have c5b1 : decide (a0_2.size ≤ 200) = true := decide_eq_true (by omega)
        clear c5
        obtain rfl := Option.some.inj H
        go_enter Tryd.func7, Tryd.ntmps7
        go_wp2_with (first | ((with_reducible refine gate_dst (N := 1) rfl ?_); (try (refine gate_guard (by rfl) ?_; dsimp only)); refine box_event ?hg (N := 1) ?hd (cs := #[.int .i64 a0_0, .slice A0_1 l0_1.length c0_1, .string a0_2, .string a0_3]) (t := 24) ?hr ?_; (case hd => rfl); (case hg => rfl); (case hr => first | (go_simp; done) | (go_simp; rfl)); intro zaa hg w6 hbox hb; have n0_ := M.upS HB hb; have n1_ := Aside0.mk (hbox); have n2_ := M.upG HB hg; have n3_ := M.upG HB hg; clear HB; have HB := n0_; have zab := n1_; have zac := n2_; have zad := n3_; clear n0_ n1_ n2_ n3_; clear hb hbox hg; have zae : w6.cell? ⟨zaa, 0, none⟩ = some (.int .i64 a0_0) := (blk_cell zab.out 0).trans rfl; have zaf : w6.cell? ⟨zaa, 1, none⟩ = some (.slice A0_1 l0_1.length c0_1) := (blk_cell zab.out 1).trans rfl; have zag : w6.cell? ⟨zaa, 2, none⟩ = some (.string a0_2) := (blk_cell zab.out 2).trans rfl; have zah : w6.cell? ⟨zaa, 3, none⟩ = some (.string a0_3) := (blk_cell zab.out 3).trans rfl; have zai := blk_frozen zab.out 0; have zaj := blk_frozen zab.out 1; have zak := blk_frozen zab.out 2; have zal := blk_frozen zab.out 3) | (go_at_call 21; (with_reducible refine (pleachplain_Bytes.calls _ _ l0_1 t103 _ ?side1 ?side2 A3.out).mono ?_); (case side1 => exact M.cB HR0_1 HB); (case side2 => exact HC0_1.out); rintro e w8 ⟨rfl, hb⟩; have n0_ := M.bkB zab hb; have n1_ := M.upS HB hb; clear zab HB; have zab := n0_; have HB := n1_; clear n0_ n1_; (try clear hb); (try clear hb2); (try clear hk); (try clear hi); have zam : w8.cell? ⟨zaa, 0, none⟩ = some (.int .i64 a0_0) := (blk_cell zab.out 0).trans rfl; have zan : w8.cell? ⟨zaa, 1, none⟩ = some (.slice A0_1 l0_1.length c0_1) := (blk_cell zab.out 1).trans rfl; have zao : w8.cell? ⟨zaa, 2, none⟩ = some (.string a0_2) := (blk_cell zab.out 2).trans rfl; have zap : w8.cell? ⟨zaa, 3, none⟩ = some (.string a0_3) := (blk_cell zab.out 3).trans rfl; have zaq := blk_frozen zab.out 0; have zar := blk_frozen zab.out 1; have zas := blk_frozen zab.out 2; have zat := blk_frozen zab.out 3))
        go_ret
        exact M.fin (M.up HB)
      · rw [if_neg c5] at H
        have c5b0 : decide ((a0_2.size : Int) ≤ 200) = false := decide_eq_false c5
        have c5b1 : decide (a0_2.size ≤ 200) = false := decide_eq_false (by omega)
        clear c5
        obtain rfl := Option.some.inj H
        go_enter Tryd.func7, Tryd.ntmps7
        go_wp2_with (first | ((with_reducible refine gate_dst (N := 1) rfl ?_); (try (refine gate_guard (by rfl) ?_; dsimp only)); refine box_event ?hg (N := 1) ?hd (cs := #[.int .i64 a0_0, .slice A0_1 l0_1.length c0_1, .string a0_2, .string a0_3]) (t := 24) ?hr ?_; (case hd => rfl); (case hg => rfl); (case hr => first | (go_simp; done) | (go_simp; rfl)); intro zaa hg w10 hbox hb; have n0_ := M.upS HB hb; have n1_ := Aside0.mk (hbox); have n2_ := M.upG HB hg; have n3_ := M.upG HB hg; clear HB; have HB := n0_; have zab := n1_; have zac := n2_; have zad := n3_; clear n0_ n1_ n2_ n3_; clear hb hbox hg; have zau : w10.cell? ⟨zaa, 0, none⟩ = some (.int .i64 a0_0) := (blk_cell zab.out 0).trans rfl; have zav : w10.cell? ⟨zaa, 1, none⟩ = some (.slice A0_1 l0_1.length c0_1) := (blk_cell zab.out 1).trans rfl; have zaw : w10.cell? ⟨zaa, 2, none⟩ = some (.string a0_2) := (blk_cell zab.out 2).trans rfl; have zax : w10.cell? ⟨zaa, 3, none⟩ = some (.string a0_3) := (blk_cell zab.out 3).trans rfl; have zay := blk_frozen zab.out 0; have zaz := blk_frozen zab.out 1; have zaA := blk_frozen zab.out 2; have zaB := blk_frozen zab.out 3) | (go_at_call 21; (with_reducible refine (pleachplain_Bytes.calls _ _ l0_1 t103 _ ?side1 ?side2 A3.out).mono ?_); (case side1 => exact M.cB HR0_1 HB); (case side2 => exact HC0_1.out); rintro e w12 ⟨rfl, hb⟩; have n0_ := M.bkB zab hb; have n1_ := M.upS HB hb; clear zab HB; have zab := n0_; have HB := n1_; clear n0_ n1_; (try clear hb); (try clear hb2); (try clear hk); (try clear hi); have zaC : w12.cell? ⟨zaa, 0, none⟩ = some (.int .i64 a0_0) := (blk_cell zab.out 0).trans rfl; have zaD : w12.cell? ⟨zaa, 1, none⟩ = some (.slice A0_1 l0_1.length c0_1) := (blk_cell zab.out 1).trans rfl; have zaE : w12.cell? ⟨zaa, 2, none⟩ = some (.string a0_2) := (blk_cell zab.out 2).trans rfl; have zaF : w12.cell? ⟨zaa, 3, none⟩ = some (.string a0_3) := (blk_cell zab.out 3).trans rfl; have zaG := blk_frozen zab.out 0; have zaH := blk_frozen zab.out 1; have zaI := blk_frozen zab.out 2; have zaJ := blk_frozen zab.out 3))
        go_ret
        exact M.fin (M.up HB)
    · rw [if_neg c4] at H
      have c4b0 : decide (t103 ≤ 500) = false := decide_eq_false c4
      clear c4
      obtain rfl := Option.some.inj H
      go_enter Tryd.func7, Tryd.ntmps7
      go_wp2_with (first | ((with_reducible refine gate_dst (N := 1) rfl ?_); (try (refine gate_guard (by rfl) ?_; dsimp only)); refine box_event ?hg (N := 1) ?hd (cs := #[.int .i64 a0_0, .slice A0_1 l0_1.length c0_1, .string a0_2, .string a0_3]) (t := 24) ?hr ?_; (case hd => rfl); (case hg => rfl); (case hr => first | (go_simp; done) | (go_simp; rfl)); intro zaa hg w14 hbox hb; have n0_ := M.upS HB hb; have n1_ := Aside0.mk (hbox); have n2_ := M.upG HB hg; have n3_ := M.upG HB hg; clear HB; have HB := n0_; have zab := n1_; have zac := n2_; have zad := n3_; clear n0_ n1_ n2_ n3_; clear hb hbox hg; have zaK : w14.cell? ⟨zaa, 0, none⟩ = some (.int .i64 a0_0) := (blk_cell zab.out 0).trans rfl; have zaL : w14.cell? ⟨zaa, 1, none⟩ = some (.slice A0_1 l0_1.length c0_1) := (blk_cell zab.out 1).trans rfl; have zaM : w14.cell? ⟨zaa, 2, none⟩ = some (.string a0_2) := (blk_cell zab.out 2).trans rfl; have zaN : w14.cell? ⟨zaa, 3, none⟩ = some (.string a0_3) := (blk_cell zab.out 3).trans rfl; have zaO := blk_frozen zab.out 0; have zaP := blk_frozen zab.out 1; have zaQ := blk_frozen zab.out 2; have zaR := blk_frozen zab.out 3) | (go_at_call 21; (with_reducible refine (pleachplain_Bytes.calls _ _ l0_1 t103 _ ?side1 ?side2 A3.out).mono ?_); (case side1 => exact M.cB HR0_1 HB); (case side2 => exact HC0_1.out); rintro e w16 ⟨rfl, hb⟩; have n0_ := M.bkB zab hb; have n1_ := M.upS HB hb; clear zab HB; have zab := n0_; have HB := n1_; clear n0_ n1_; (try clear hb); (try clear hb2); (try clear hk); (try clear hi)))
      go_ret
      exact M.fin (M.up HB)
  · rw [if_neg c2] at H
    have c2b0 : decide ((l0_1.length : Int) ≤ 5) = false := decide_eq_false c2
    have c2b1 : decide (l0_1.length ≤ 5) = false := decide_eq_false (by omega)
    clear c2
    obtain rfl := Option.some.inj H
    go_enter Tryd.func7, Tryd.ntmps7
    go_wp2_with (first | ((with_reducible refine gate_dst (N := 1) rfl ?_); (try (refine gate_guard (by rfl) ?_; dsimp only)); refine box_event ?hg (N := 1) ?hd (cs := #[.int .i64 a0_0, .slice A0_1 l0_1.length c0_1, .string a0_2, .string a0_3]) (t := 24) ?hr ?_; (case hd => rfl); (case hg => rfl); (case hr => first | (go_simp; done) | (go_simp; rfl)); intro zaa hg w17 hbox hb; have n0_ := M.upS HB hb; have n1_ := Aside0.mk (hbox); have n2_ := M.upG HB hg; have n3_ := M.upG HB hg; clear HB; have HB := n0_; have zab := n1_; have zac := n2_; have zad := n3_; clear n0_ n1_ n2_ n3_; clear hb hbox hg; have zaS : w17.cell? ⟨zaa, 0, none⟩ = some (.int .i64 a0_0) := (blk_cell zab.out 0).trans rfl; have zaT : w17.cell? ⟨zaa, 1, none⟩ = some (.slice A0_1 l0_1.length c0_1) := (blk_cell zab.out 1).trans rfl; have zaU : w17.cell? ⟨zaa, 2, none⟩ = some (.string a0_2) := (blk_cell zab.out 2).trans rfl; have zaV : w17.cell? ⟨zaa, 3, none⟩ = some (.string a0_3) := (blk_cell zab.out 3).trans rfl; have zaW := blk_frozen zab.out 0; have zaX := blk_frozen zab.out 1; have zaY := blk_frozen zab.out 2; have zaZ := blk_frozen zab.out 3))
    go_ret
    exact M.fin (M.up HB)

/-! ### shelf_New: function 15 -/
set_option maxHeartbeats 8000000 in
set_option maxRecDepth 100000 in
theorem shelf_New.calls (w : World) :
    Calls Tryd.prog 15 #[] w fun e w' => ∃ g B D, e = .returned (.pointer (some ⟨g, 0, none⟩)) ∧ M.shelf Tryd.prog w.heap.size w' g B D (.slice none 0 0) (.slice none 0 0) [] ByteArray.empty ByteArray.empty ∧ Below w.heap.size w w' := by
  have hmm := @run_makeMap Tryd.prog
  go_enter Tryd.func15, Tryd.ntmps15
  go_wp2
  go_ret
  have hz : (w.alloc (.map #[] 0)).heap.size = w.heap.size + 1 := by simp
  have hb := heap_alloc_new (w.alloc (.map #[] 0)) (.cells #[.map (some w.heap.size), .slice none 0 0, .slice none 0 0, .string ByteArray.empty, .string ByteArray.empty] 81)
  rw [hz] at hb
  refine ⟨w.heap.size + 1, w.heap.size, .map [], rfl, ⟨hb, (World.ownsMap_made w _ _ _).alloc _, M.told_nil, ⟨rfl, .inl ⟨rfl, rfl⟩⟩, ⟨rfl, .inl ⟨rfl, rfl⟩⟩, ?_, Nat.le_refl _, ?_, ?_, ?_, ?_, ?_, .inl rfl⟩, below_alloc (below_alloc (Below.refl _ _) _) _⟩
  · omega
  · omega
  · simp [Value.ownBlock]
  · simp [Value.ownBlock]
  · simp [Value.ownBlock]
  · simp [Value.ownBlock]
theorem shelf_New.any (w : World) :
    Calls Tryd.prog 15 #[] w fun e w' => ∃ g F, e = .returned (.pointer (some ⟨g, 0, none⟩)) ∧ M.Sh Tryd.prog w.heap.size w' g F M.SS.none_ ∧ Below w.heap.size w w' := by
  refine (shelf_New.calls w).mono ?_
  rintro e w' ⟨g, B, D, rfl, hs, hb⟩
  exact ⟨g, M.feet g B (.slice none 0 0) (.slice none 0 0), rfl, ⟨B, D, _, _, hs, fun _ hk => hk, fun k hk => ⟨M.feet_ge hs k hk, M.feet_lt hs k hk⟩⟩, hb⟩

/-! ### commit_Check_p: function 18 -/
mutual
def commit_Check_p.j0 : Nat → Bool → Int → List ByteArray → ByteArray → ByteArray → Option (Int)
  | 0, _, _, _, _, _ => none
  | k + 1, x5, za0, za1, za2, za3 => if x5 = true then (some 2) else (if (za2.size : Int) = 32 then (if (za3.size : Int) > 40 then (some 2) else (commit_Check_p.l0 k za1 (za1.length : Int) 0 za0 za1 za2 za3)) else (some 2))
def commit_Check_p.l0 : Nat → List ByteArray → Int → Int → Int → List ByteArray → ByteArray → ByteArray → Option (Int)
  | 0, _, _, _, _, _, _, _ => none
  | k + 1, x32, x33, x34, za0, za1, za2, za3 => if x34 < x33 then (if 0 ≤ x34 then (if x34 < (x32.length : Int) then (if ((rdOf ByteArray.empty x32 x34).size : Int) = 32 then (if x34 > 0 then (if 0 < (za1.length : Int) then (commit_Check_p.j2 k x32 x33 x34 ((rdOf ByteArray.empty x32 x34).toList == (rdOf ByteArray.empty za1 0).toList) za0 za1 za2 za3) else (none)) else (commit_Check_p.j2 k x32 x33 x34 false za0 za1 za2 za3)) else (commit_Check_p.j2 k x32 x33 x34 true za0 za1 za2 za3)) else (none)) else (none)) else (some 0)
def commit_Check_p.j2 : Nat → List ByteArray → Int → Int → Bool → Int → List ByteArray → ByteArray → ByteArray → Option (Int)
  | 0, _, _, _, _, _, _, _, _ => none
  | k + 1, x32, x33, x34, x53, za0, za1, za2, za3 => if x53 = true then (some 2) else (commit_Check_p.l0 k x32 x33 (wrap64 (x34 + 1)) za0 za1 za2 za3)
end
def commit_Check_p.f (k : Nat) (a0_0 : Int) (l0_1 : List ByteArray) (a0_2 : ByteArray) (a0_3 : ByteArray) : Option (Int) := if a0_0 < 1 then (commit_Check_p.j0 k true a0_0 l0_1 a0_2 a0_3) else (if a0_0 > 4294967295 then (commit_Check_p.j0 k true a0_0 l0_1 a0_2 a0_3) else (commit_Check_p.j0 k (decide ((l0_1.length : Int) > 2)) a0_0 l0_1 a0_2 a0_3))
theorem commit_Check_p.mono_l : ∀ k, (∀ y0 y1 y2 y3 y4, LeO (commit_Check_p.j0 k y0 y1 y2 y3 y4) (commit_Check_p.j0 (k + 1) y0 y1 y2 y3 y4)) ∧ (∀ y0 y1 y2 y3 y4 y5 y6, LeO (commit_Check_p.l0 k y0 y1 y2 y3 y4 y5 y6) (commit_Check_p.l0 (k + 1) y0 y1 y2 y3 y4 y5 y6)) ∧ (∀ y0 y1 y2 y3 y4 y5 y6 y7, LeO (commit_Check_p.j2 k y0 y1 y2 y3 y4 y5 y6 y7) (commit_Check_p.j2 (k + 1) y0 y1 y2 y3 y4 y5 y6 y7))
  | 0 => ⟨fun _ _ _ _ _ r h => by simp [commit_Check_p.j0] at h, fun _ _ _ _ _ _ _ r h => by simp [commit_Check_p.l0] at h, fun _ _ _ _ _ _ _ _ r h => by simp [commit_Check_p.j2] at h⟩
  | k + 1 => by
    obtain ⟨ih0, ih1, ih2⟩ := commit_Check_p.mono_l k
    refine ⟨?_, ?_, ?_⟩
    · intro y0 y1 y2 y3 y4
      unfold commit_Check_p.j0
      repeat' first
      | (with_reducible exact ih0 _ _ _ _ _)
      | (with_reducible exact ih1 _ _ _ _ _ _ _)
      | (with_reducible exact ih2 _ _ _ _ _ _ _ _)
      | (with_reducible exact LeO.refl _)
      | (with_reducible exact LeO.none _)
      | (with_reducible refine LeO.ite ?_ ?_)
      | (with_reducible refine LeO.bind ?_ (fun _ => ?_))
      | exact ih0 _ _ _ _ _
      | exact ih1 _ _ _ _ _ _ _
      | exact ih2 _ _ _ _ _ _ _ _
      | exact LeO.none _
      | refine LeO.ite ?_ ?_
      | refine LeO.bind ?_ (fun _ => ?_)
    · intro y0 y1 y2 y3 y4 y5 y6
      unfold commit_Check_p.l0
      repeat' first
      | (with_reducible exact ih0 _ _ _ _ _)
      | (with_reducible exact ih1 _ _ _ _ _ _ _)
      | (with_reducible exact ih2 _ _ _ _ _ _ _ _)
      | (with_reducible exact LeO.refl _)
      | (with_reducible exact LeO.none _)
      | (with_reducible refine LeO.ite ?_ ?_)
      | (with_reducible refine LeO.bind ?_ (fun _ => ?_))
      | exact ih0 _ _ _ _ _
      | exact ih1 _ _ _ _ _ _ _
      | exact ih2 _ _ _ _ _ _ _ _
      | exact LeO.none _
      | refine LeO.ite ?_ ?_
      | refine LeO.bind ?_ (fun _ => ?_)
    · intro y0 y1 y2 y3 y4 y5 y6 y7
      unfold commit_Check_p.j2
      repeat' first
      | (with_reducible exact ih0 _ _ _ _ _)
      | (with_reducible exact ih1 _ _ _ _ _ _ _)
      | (with_reducible exact ih2 _ _ _ _ _ _ _ _)
      | (with_reducible exact LeO.refl _)
      | (with_reducible exact LeO.none _)
      | (with_reducible refine LeO.ite ?_ ?_)
      | (with_reducible refine LeO.bind ?_ (fun _ => ?_))
      | exact ih0 _ _ _ _ _
      | exact ih1 _ _ _ _ _ _ _
      | exact ih2 _ _ _ _ _ _ _ _
      | exact LeO.none _
      | refine LeO.ite ?_ ?_
      | refine LeO.bind ?_ (fun _ => ?_)
theorem commit_Check_p.mono : ∀ a0 a1 a2 a3 k, LeO (commit_Check_p.f k a0 a1 a2 a3) (commit_Check_p.f (k + 1) a0 a1 a2 a3) := by
  intro a0 a1 a2 a3 k
  obtain ⟨ih0, ih1, ih2⟩ := commit_Check_p.mono_l k
  unfold commit_Check_p.f
  repeat' first
      | (with_reducible exact ih0 _ _ _ _ _)
      | (with_reducible exact ih1 _ _ _ _ _ _ _)
      | (with_reducible exact ih2 _ _ _ _ _ _ _ _)
      | (with_reducible exact LeO.refl _)
      | (with_reducible exact LeO.none _)
      | (with_reducible refine LeO.ite ?_ ?_)
      | (with_reducible refine LeO.bind ?_ (fun _ => ?_))
      | exact ih0 _ _ _ _ _
      | exact ih1 _ _ _ _ _ _ _
      | exact ih2 _ _ _ _ _ _ _ _
      | exact LeO.none _
      | refine LeO.ite ?_ ?_
      | refine LeO.bind ?_ (fun _ => ?_)
set_option maxHeartbeats 8000000 in
set_option maxRecDepth 100000 in
theorem commit_Check_p.calls (k : Nat) (a0_0 : Int) (A0_1 : Option Addr) (c0_1 : Nat) (l0_1 : List ByteArray) (a0_2 : ByteArray) (a0_3 : ByteArray) (r : Int) (w : World) (hr0_1 : Kd.C Kd.string w A0_1 l0_1.length l0_1) (hc0_1 : l0_1.length ≤ c0_1) (h : commit_Check_p.f k a0_0 l0_1 a0_2 a0_3 = some r) :
    Calls Tryd.prog 18 #[.agg #[.int .i64 a0_0, .slice A0_1 l0_1.length c0_1, .string a0_2, .string a0_3]] w fun e w' => e = .returned (.int .i64 r) ∧ Below w.heap.size w w' := by
  have hu24 := Tryd.underlying24
  have HR0_1 := Aside0.mk hr0_1
  have HC0_1 := Aside0.mk hc0_1
  clear hr0_1 hc0_1
  have HB := Aside0.mk (Below.refl w.heap.size w)
  have H : (if a0_0 < 1 then (commit_Check_p.j0 k true a0_0 l0_1 a0_2 a0_3) else (if a0_0 > 4294967295 then (commit_Check_p.j0 k true a0_0 l0_1 a0_2 a0_3) else (commit_Check_p.j0 k (decide ((l0_1.length : Int) > 2)) a0_0 l0_1 a0_2 a0_3))) = some r := h
  clear h
  have HC2 := Aside0.mk H
  clear H
  go_enter Tryd.func18, Tryd.ntmps18
  go_upto_region 1 with (first | ((with_reducible refine gate_dst (N := 1) rfl ?_); (try (refine gate_guard (by rfl) ?_; dsimp only)); refine box_event ?hg (N := 1) ?hd (cs := #[.int .i64 a0_0, .slice A0_1 l0_1.length c0_1, .string a0_2, .string a0_3]) (t := 24) ?hr ?_; (case hd => rfl); (case hg => rfl); (case hr => first | (go_simp; done) | (go_simp; rfl)); intro za4 hg w3 hbox hb; have n0_ := M.upS HB hb; have n1_ := Aside0.mk (hbox); have n2_ := M.upG HB hg; have n3_ := M.upG HB hg; clear HB; have HB := n0_; have za5 := n1_; have za6 := n2_; have za7 := n3_; clear n0_ n1_ n2_ n3_; clear hb hbox hg))
  (try simp only [Act.put, List.setIfInBounds_toArray, List.set_cons_zero, List.set_cons_succ])
  go_cut [5] (fun v5 wc => ∃ (kq : Nat) (x5_1 : Bool), v5 = .bool x5_1 ∧ Aside0 (commit_Check_p.j0 kq x5_1 a0_0 l0_1 a0_2 a0_3 = some r) ∧ Aside0 (kq ≤ k) ∧ Aside0 (wc.heap[za4]? = some (.cells #[.int .i64 a0_0, (.slice A0_1 l0_1.length c0_1), .string a0_2, .string a0_3] 24 (0, 0))) ∧ Aside0 (Below w.heap.size w wc))
  case first =>
    have H := HC2.out
    clear HC2
    by_cases c4 : a0_0 < 1
    · rw [if_pos c4] at H
      have c4b0 : decide (a0_0 < 1) = true := decide_eq_true c4
      clear c4
      (first | rw [c4b0] | (simp only [i64_w, i32_w]; rw [c4b0]) | skip)
      have H' := Aside0.mk H
      clear H
      have za8 : w3.cell? ⟨za4, 0, none⟩ = some (.int .i64 a0_0) := (blk_cell za5.out 0).trans rfl
      have za9 : w3.cell? ⟨za4, 1, none⟩ = some (.slice A0_1 l0_1.length c0_1) := (blk_cell za5.out 1).trans rfl
      have zba : w3.cell? ⟨za4, 2, none⟩ = some (.string a0_2) := (blk_cell za5.out 2).trans rfl
      have zbb : w3.cell? ⟨za4, 3, none⟩ = some (.string a0_3) := (blk_cell za5.out 3).trans rfl
      have zbc := blk_frozen za5.out 0
      have zbd := blk_frozen za5.out 1
      have zbe := blk_frozen za5.out 2
      have zbf := blk_frozen za5.out 3
      go_wp2
      go_meet
      case rel => exact ⟨_, (true), (by first | rfl | (simp; done) | (simp [*]; done) | (simp [M.isEmpty_bne]; done)), H', ⟨by first | omega | exact Nat.le_refl _⟩, ⟨by (with_reducible repeat (first | refine blk_drewN ?_ _ | refine blk_drew ?_ | refine blk_alloc ?_ _)); exact za5.out⟩, ⟨M.up HB⟩⟩
    · rw [if_neg c4] at H
      have c4b0 : decide (a0_0 < 1) = false := decide_eq_false c4
      clear c4
      (first | rw [c4b0] | (simp only [i64_w, i32_w]; rw [c4b0]) | skip)
      by_cases c6 : a0_0 > 4294967295
      · rw [if_pos c6] at H
        have c6b0 : decide (4294967295 < a0_0) = true := decide_eq_true c6
        clear c6
        have H' := Aside0.mk H
        clear H
        have zae : w3.cell? ⟨za4, 0, none⟩ = some (.int .i64 a0_0) := (blk_cell za5.out 0).trans rfl
        have zaf : w3.cell? ⟨za4, 1, none⟩ = some (.slice A0_1 l0_1.length c0_1) := (blk_cell za5.out 1).trans rfl
        have zag : w3.cell? ⟨za4, 2, none⟩ = some (.string a0_2) := (blk_cell za5.out 2).trans rfl
        have zah : w3.cell? ⟨za4, 3, none⟩ = some (.string a0_3) := (blk_cell za5.out 3).trans rfl
        have zai := blk_frozen za5.out 0
        have zaj := blk_frozen za5.out 1
        have zak := blk_frozen za5.out 2
        have zal := blk_frozen za5.out 3
        go_wp2
        go_meet
        case rel => exact ⟨_, (true), (by first | rfl | (simp; done) | (simp [*]; done) | (simp [M.isEmpty_bne]; done)), H', ⟨by first | omega | exact Nat.le_refl _⟩, ⟨by (with_reducible repeat (first | refine blk_drewN ?_ _ | refine blk_drew ?_ | refine blk_alloc ?_ _)); exact za5.out⟩, ⟨M.up HB⟩⟩
      · rw [if_neg c6] at H
        have c6b0 : decide (4294967295 < a0_0) = false := decide_eq_false c6
        clear c6
        have H' := Aside0.mk H
        clear H
        have zbg : w3.cell? ⟨za4, 0, none⟩ = some (.int .i64 a0_0) := (blk_cell za5.out 0).trans rfl
        have zbh : w3.cell? ⟨za4, 1, none⟩ = some (.slice A0_1 l0_1.length c0_1) := (blk_cell za5.out 1).trans rfl
        have zbi : w3.cell? ⟨za4, 2, none⟩ = some (.string a0_2) := (blk_cell za5.out 2).trans rfl
        have zbj : w3.cell? ⟨za4, 3, none⟩ = some (.string a0_3) := (blk_cell za5.out 3).trans rfl
        have zbk := blk_frozen za5.out 0
        have zbl := blk_frozen za5.out 1
        have zbm := blk_frozen za5.out 2
        have zbn := blk_frozen za5.out 3
        go_wp2
        go_meet
        case rel => exact ⟨_, (decide ((l0_1.length : Int) > 2)), (by first | rfl | (simp; done) | (simp [*]; done) | (simp [M.isEmpty_bne]; done)), H', ⟨by first | omega | exact Nat.le_refl _⟩, ⟨by (with_reducible repeat (first | refine blk_drewN ?_ _ | refine blk_drew ?_ | refine blk_alloc ?_ _)); exact za5.out⟩, ⟨M.up HB⟩⟩
  case rest =>
    clear HC2
    try clear c1
    try clear p2
    try clear c4
    try clear c4b0
    try clear c6
    try clear c6b0
    try clear za8
    try clear za9
    try clear zba
    try clear zbb
    try clear zae
    try clear zaf
    try clear zag
    try clear zah
    try clear zbg
    try clear zbh
    try clear zbi
    try clear zbj
    try clear zbc
    try clear zbd
    try clear zbe
    try clear zbf
    try clear zai
    try clear zaj
    try clear zak
    try clear zal
    try clear zbk
    try clear zbl
    try clear zbm
    try clear zbn
    obtain ⟨kq, x5_1, rfl, HA, HJ1, za5, HB⟩ := hcut
    cases kq with
    | zero => exact absurd HA.out (by simp [commit_Check_p.j0])
    | succ kj1 =>
      have H := HA.out
      clear HA
      simp only [commit_Check_p.j0] at H
      by_cases c9 : x5_1 = true
      · subst c9
        have H1 : (some 2) = some r := by rw [if_pos rfl] at H; exact H
        clear H
        have H := H1
        clear H1
        obtain rfl := Option.some.inj H
        go_wp2
        go_ret
        exact M.fin (M.up HB)
      · replace c9 := Bool.eq_false_iff.mpr c9
        subst c9
        have H1 : (if (a0_2.size : Int) = 32 then (if (a0_3.size : Int) > 40 then (some 2) else (commit_Check_p.l0 kj1 l0_1 (l0_1.length : Int) 0 a0_0 l0_1 a0_2 a0_3)) else (some 2)) = some r := by rw [if_neg (show ¬ (false = true) by decide)] at H; exact H
        clear H
        have H := H1
        clear H1
        by_cases c10 : (a0_2.size : Int) = 32
        · rw [if_pos c10] at H
          have c10b0 : ((a0_2.size : Int) == 32) = true := beq_iff_eq.mpr c10
          have c10b1 : ((a0_2.size : Int) != 32) = false := bne_eq_false_iff_eq.mpr c10
          clear c10
          by_cases c11 : (a0_3.size : Int) > 40
          · rw [if_pos c11] at H
            have c11b0 : decide (40 < (a0_3.size : Int)) = true := decide_eq_true c11
            have c11b1 : decide (40 < a0_3.size) = true := decide_eq_true (by omega)
            clear c11
            obtain rfl := Option.some.inj H
            have zbo : wc.cell? ⟨za4, 0, none⟩ = some (.int .i64 a0_0) := (blk_cell za5.out 0).trans rfl
            have zbp : wc.cell? ⟨za4, 1, none⟩ = some (.slice A0_1 l0_1.length c0_1) := (blk_cell za5.out 1).trans rfl
            have zbq : wc.cell? ⟨za4, 2, none⟩ = some (.string a0_2) := (blk_cell za5.out 2).trans rfl
            have zbr : wc.cell? ⟨za4, 3, none⟩ = some (.string a0_3) := (blk_cell za5.out 3).trans rfl
            have zbs := blk_frozen za5.out 0
            have zbt := blk_frozen za5.out 1
            have zbu := blk_frozen za5.out 2
            have zbv := blk_frozen za5.out 3
            go_wp2
            go_ret
            exact M.fin (M.up HB)
          · rw [if_neg c11] at H
            have c11b0 : decide (40 < (a0_3.size : Int)) = false := decide_eq_false c11
            have c11b1 : decide (40 < a0_3.size) = false := decide_eq_false (by omega)
            clear c11
            have H' := Aside0.mk H
            clear H
            have zaC : wc.cell? ⟨za4, 0, none⟩ = some (.int .i64 a0_0) := (blk_cell za5.out 0).trans rfl
            have zaD : wc.cell? ⟨za4, 1, none⟩ = some (.slice A0_1 l0_1.length c0_1) := (blk_cell za5.out 1).trans rfl
            have zaE : wc.cell? ⟨za4, 2, none⟩ = some (.string a0_2) := (blk_cell za5.out 2).trans rfl
            have zaF : wc.cell? ⟨za4, 3, none⟩ = some (.string a0_3) := (blk_cell za5.out 3).trans rfl
            have zaG := blk_frozen za5.out 0
            have zaH := blk_frozen za5.out 1
            have zaI := blk_frozen za5.out 2
            have zaJ := blk_frozen za5.out 3
            go_wp2
            go_loopg [34] kj1 (fun kq v34 w' => ∃ (x34_2 : Int), v34 = .int .i64 x34_2 ∧ Aside0 (commit_Check_p.l0 kq l0_1 (l0_1.length : Int) x34_2 a0_0 l0_1 a0_2 a0_3 = some r) ∧ Aside0 (kq ≤ kj1) ∧ Aside0 (w'.heap[za4]? = some (.cells #[.int .i64 a0_0, (.slice A0_1 l0_1.length c0_1), .string a0_2, .string a0_3] 24 (0, 0))) ∧ Aside0 (Below w.heap.size w w'))
            case atStart => exact ⟨(0), (by first | rfl | (simp; done) | (simp [*]; done) | (simp [M.isEmpty_bne]; done)), H', ⟨Nat.le_refl _⟩, ⟨by (with_reducible repeat (first | refine blk_drewN ?_ _ | refine blk_drew ?_ | refine blk_alloc ?_ _)); exact za5.out⟩, ⟨M.up HB⟩⟩
            case round =>
              clear H'
              try clear c1
              try clear p2
              try clear c4
              try clear c4b0
              try clear c6
              try clear c6b0
              try clear c9
              try clear c10
              try clear c10b0
              try clear c10b1
              try clear c11
              try clear c11b0
              try clear c11b1
              try clear zbo
              try clear zbp
              try clear zbq
              try clear zbr
              try clear zaC
              try clear zaD
              try clear zaE
              try clear zaF
              try clear za8
              try clear za9
              try clear zba
              try clear zbb
              try clear zae
              try clear zaf
              try clear zag
              try clear zah
              try clear zbg
              try clear zbh
              try clear zbi
              try clear zbj
              try clear zbs
              try clear zbt
              try clear zbu
              try clear zbv
              try clear zaG
              try clear zaH
              try clear zaI
              try clear zaJ
              try clear zbc
              try clear zbd
              try clear zbe
              try clear zbf
              try clear zai
              try clear zaj
              try clear zak
              try clear zal
              try clear zbk
              try clear zbl
              try clear zbm
              try clear zbn
              try clear p2
              obtain ⟨x34_2, rfl, HA, HK2, za5, HB⟩ := hrel
              cases gk with
              | zero => exact absurd HA.out (by simp [commit_Check_p.l0])
              | succ k2 =>
                have H := HA.out
                clear HA
                simp only [commit_Check_p.l0] at H
                by_cases c14 : x34_2 < (l0_1.length : Int)
                · rw [if_pos c14] at H
                  have c14b0 : decide (x34_2 < (l0_1.length : Int)) = true := decide_eq_true c14
                  clear c14
                  by_cases c15 : 0 ≤ x34_2
                  · rw [if_pos c15] at H
                    have c15b0 : decide (0 ≤ x34_2) = true := decide_eq_true c15
                    clear c15
                    by_cases c16 : x34_2 < (l0_1.length : Int)
                    · rw [if_pos c16] at H
                      have c16b0 : decide (x34_2 < (l0_1.length : Int)) = true := decide_eq_true c16
                      clear c16
                      have HC17 := Aside0.mk H
                      clear H
                      have p105 : 0 ≤ (x34_2 : Int) := of_decide_eq_true (by first | (with_reducible assumption) | assumption)
                      have q105 : x34_2 < (l0_1.length : Int) := of_decide_eq_true (by first | (with_reducible assumption) | assumption)
                      obtain ⟨ad105, e105, hx105_0⟩ := Kd.at_string HR0_1.out x34_2 p105 q105
                      cases e105
                      replace hx105_0 := (HB.out.cell (World.block_lt_of_cell? w _ hx105_0)).trans hx105_0
                      replace p105 := eq_true p105
                      replace q105 := eq_true q105
                      go_upto_region 8 with (fail)
                      go_cut [53] (fun v53 wc => ∃ (kq : Nat) (x53_16 : Bool), v53 = .bool x53_16 ∧ Aside0 (commit_Check_p.j2 kq l0_1 (l0_1.length : Int) x34_2 x53_16 a0_0 l0_1 a0_2 a0_3 = some r) ∧ Aside0 (kq ≤ k2) ∧ Aside0 (wc.heap[za4]? = some (.cells #[.int .i64 a0_0, (.slice (some ad105) l0_1.length c0_1), .string a0_2, .string a0_3] 24 (0, 0))) ∧ Aside0 (Below w.heap.size w wc))
                      case first =>
                        have H := HC17.out
                        clear HC17
                        by_cases c18 : ((rdOf ByteArray.empty l0_1 x34_2).size : Int) = 32
                        · rw [if_pos c18] at H
                          have c18b0 : (((rdOf ByteArray.empty l0_1 x34_2).size : Int) == 32) = true := beq_iff_eq.mpr c18
                          have c18b1 : (((rdOf ByteArray.empty l0_1 x34_2).size : Int) != 32) = false := bne_eq_false_iff_eq.mpr c18
                          clear c18
                          (first | rw [c18b0] | (simp only [i64_w, i32_w]; rw [c18b0]) | skip)
                          by_cases c19 : x34_2 > 0
                          · rw [if_pos c19] at H
                            have c19b0 : decide (0 < x34_2) = true := decide_eq_true c19
                            clear c19
                            by_cases c20 : 0 < (l0_1.length : Int)
                            · rw [if_pos c20] at H
                              have c20b0 : decide (0 < (l0_1.length : Int)) = true := decide_eq_true c20
                              have c20b1 : decide (0 < l0_1.length) = true := decide_eq_true (by omega)
                              clear c20
                              have H' := Aside0.mk H
                              clear H
                              have zbw : wr.cell? ⟨za4, 0, none⟩ = some (.int .i64 a0_0) := (blk_cell za5.out 0).trans rfl
                              have zbx : wr.cell? ⟨za4, 1, none⟩ = some (.slice (some ad105) l0_1.length c0_1) := (blk_cell za5.out 1).trans rfl
                              have zby : wr.cell? ⟨za4, 2, none⟩ = some (.string a0_2) := (blk_cell za5.out 2).trans rfl
                              have zbz : wr.cell? ⟨za4, 3, none⟩ = some (.string a0_3) := (blk_cell za5.out 3).trans rfl
                              have zbA := blk_frozen za5.out 0
                              have zbB := blk_frozen za5.out 1
                              have zbC := blk_frozen za5.out 2
                              have zbD := blk_frozen za5.out 3
                              have p106 : 0 ≤ (0 : Int) := (by omega)
                              have q106 : 0 < (l0_1.length : Int) := of_decide_eq_true (by first | (with_reducible assumption) | assumption)
                              obtain ⟨ad106, e106, hx106_0⟩ := Kd.at_string HR0_1.out 0 p106 q106
                              obtain rfl : ad105 = ad106 := (by injection e106)
                              have qi106 : (0 < l0_1.length) = True := eq_true (by omega)
                              (try rw [show ((0 : Int)).toNat = 0 from rfl] at hx106_0)
                              (try rw [Addr.add_zero'] at hx106_0)
                              replace hx106_0 := (HB.out.cell (World.block_lt_of_cell? w _ hx106_0)).trans hx106_0
                              replace p106 := eq_true p106
                              replace q106 := eq_true q106
                              go_wp2
                              go_meet
                              case rel => exact ⟨_, (((rdOf ByteArray.empty l0_1 x34_2).toList == (rdOf ByteArray.empty l0_1 0).toList)), (by first | rfl | (simp; done) | (simp [*]; done) | (simp [M.isEmpty_bne]; done)), H', ⟨by have := HJ1.out; have := HK2.out; first | omega | exact Nat.le_refl _⟩, ⟨by (with_reducible repeat (first | refine blk_drewN ?_ _ | refine blk_drew ?_ | refine blk_alloc ?_ _)); exact za5.out⟩, ⟨M.up HB⟩⟩
                            · rw [if_neg c20] at H
                              exact absurd H (by simp)
                          · rw [if_neg c19] at H
                            have c19b0 : decide (0 < x34_2) = false := decide_eq_false c19
                            clear c19
                            have H' := Aside0.mk H
                            clear H
                            go_wp2
                            go_meet
                            case rel => exact ⟨_, (false), (by first | rfl | (simp; done) | (simp [*]; done) | (simp [M.isEmpty_bne]; done)), H', ⟨by have := HJ1.out; have := HK2.out; first | omega | exact Nat.le_refl _⟩, ⟨by (with_reducible repeat (first | refine blk_drewN ?_ _ | refine blk_drew ?_ | refine blk_alloc ?_ _)); exact za5.out⟩, ⟨M.up HB⟩⟩
                        · rw [if_neg c18] at H
                          have c18b0 : (((rdOf ByteArray.empty l0_1 x34_2).size : Int) == 32) = false := beq_eq_false_iff_ne.mpr c18
                          have c18b1 : (((rdOf ByteArray.empty l0_1 x34_2).size : Int) != 32) = true := bne_iff_ne.mpr c18
                          (first | rw [c18b0] | (simp only [i64_w, i32_w]; rw [c18b0]) | skip)
                          have H' := Aside0.mk H
                          clear H
                          go_wp2
                          go_meet
                          case rel => exact ⟨_, (true), (by first | rfl | (simp; done) | (simp [*]; done) | (simp [M.isEmpty_bne]; done)), H', ⟨by have := HJ1.out; have := HK2.out; first | omega | exact Nat.le_refl _⟩, ⟨by (with_reducible repeat (first | refine blk_drewN ?_ _ | refine blk_drew ?_ | refine blk_alloc ?_ _)); exact za5.out⟩, ⟨M.up HB⟩⟩
                      case rest =>
                        clear HC17
                        try clear c1
                        try clear p1
                        try clear q1
                        try clear hx1
                        try clear qi1
                        try clear c2
                        try clear p2
                        try clear c4
                        try clear c4b0
                        try clear c6
                        try clear c6b0
                        try clear c9
                        try clear c10
                        try clear c10b0
                        try clear c10b1
                        try clear p10
                        try clear q10
                        try clear hx10
                        try clear qi10
                        try clear c11
                        try clear c11b0
                        try clear c11b1
                        try clear c14
                        try clear c14b0
                        try clear c15
                        try clear c15b0
                        try clear c16
                        try clear c16b0
                        try clear c18
                        try clear c18b0
                        try clear c18b1
                        try clear c19
                        try clear c19b0
                        try clear c20
                        try clear c20b0
                        try clear c20b1
                        try clear zbo
                        try clear zbp
                        try clear zbq
                        try clear zbr
                        try clear zaC
                        try clear zaD
                        try clear zaE
                        try clear zaF
                        try clear zbw
                        try clear zbx
                        try clear zby
                        try clear zbz
                        try clear za8
                        try clear za9
                        try clear zba
                        try clear zbb
                        try clear zae
                        try clear zaf
                        try clear zag
                        try clear zah
                        try clear zbg
                        try clear zbh
                        try clear zbi
                        try clear zbj
                        try clear zbs
                        try clear zbt
                        try clear zbu
                        try clear zbv
                        try clear zaG
                        try clear zaH
                        try clear zaI
                        try clear zaJ
                        try clear zbA
                        try clear zbB
                        try clear zbC
                        try clear zbD
                        try clear zbc
                        try clear zbd
                        try clear zbe
                        try clear zbf
                        try clear zai
                        try clear zaj
                        try clear zak
                        try clear zal
                        try clear zbk
                        try clear zbl
                        try clear zbm
                        try clear zbn
                        try clear hx105_0
                        try clear hx106_0
                        try clear p105
                        try clear p106
                        try clear p2
                        try clear q105
                        try clear q106
                        obtain ⟨kq, x53_16, rfl, HA, HJ16, za5, HB⟩ := hcut
                        cases kq with
                        | zero => exact absurd HA.out (by simp [commit_Check_p.j2])
                        | succ kj16 =>
                          have H := HA.out
                          clear HA
                          simp only [commit_Check_p.j2] at H
                          by_cases c22 : x53_16 = true
                          · subst c22
                            have H1 : (some 2) = some r := by rw [if_pos rfl] at H; exact H
                            clear H
                            have H := H1
                            clear H1
                            obtain rfl := Option.some.inj H
                            go_wp2
                            go_ret
                            exact M.fin (M.up HB)
                          · replace c22 := Bool.eq_false_iff.mpr c22
                            subst c22
                            have H1 : (commit_Check_p.l0 kj16 l0_1 (l0_1.length : Int) (wrap64 (x34_2 + 1)) a0_0 l0_1 a0_2 a0_3) = some r := by rw [if_neg (show ¬ (false = true) by decide)] at H; exact H
                            clear H
                            have H := H1
                            clear H1
                            have H' := Aside0.mk H
                            clear H
                            go_wp2
                            go_roundg kj16
                            case measure => have := HJ1.out; have := HK2.out; have := HJ16.out; omega
                            case rel => exact ⟨(wrap64 (x34_2 + 1)), (by first | rfl | (simp; done) | (simp [*]; done) | (simp [M.isEmpty_bne]; done)), H', ⟨by have := HJ1.out; have := HK2.out; have := HJ16.out; omega⟩, ⟨by (with_reducible repeat (first | refine blk_drewN ?_ _ | refine blk_drew ?_ | refine blk_alloc ?_ _)); exact za5.out⟩, ⟨M.up HB⟩⟩
                    · rw [if_neg c16] at H
                      exact absurd H (by simp)
                  · rw [if_neg c15] at H
                    exact absurd H (by simp)
                · rw [if_neg c14] at H
                  have c14b0 : decide (x34_2 < (l0_1.length : Int)) = false := decide_eq_false c14
                  clear c14
                  obtain rfl := Option.some.inj H
                  go_wp2
                  go_ret
                  exact M.fin (M.up HB)
        · rw [if_neg c10] at H
          have c10b0 : ((a0_2.size : Int) == 32) = false := beq_eq_false_iff_ne.mpr c10
          have c10b1 : ((a0_2.size : Int) != 32) = true := bne_iff_ne.mpr c10
          obtain rfl := Option.some.inj H
          have zbE : wc.cell? ⟨za4, 0, none⟩ = some (.int .i64 a0_0) := (blk_cell za5.out 0).trans rfl
          have zbF : wc.cell? ⟨za4, 1, none⟩ = some (.slice A0_1 l0_1.length c0_1) := (blk_cell za5.out 1).trans rfl
          have zbG : wc.cell? ⟨za4, 2, none⟩ = some (.string a0_2) := (blk_cell za5.out 2).trans rfl
          have zbH : wc.cell? ⟨za4, 3, none⟩ = some (.string a0_3) := (blk_cell za5.out 3).trans rfl
          have zbI := blk_frozen za5.out 0
          have zbJ := blk_frozen za5.out 1
          have zbK := blk_frozen za5.out 2
          have zbL := blk_frozen za5.out 3
          go_wp2
          go_ret
          exact M.fin (M.up HB)

-- this session's own plain form
def commit_Check.f (a0_0 : Int) (l0_1 : List ByteArray) (a0_2 : ByteArray) (a0_3 : ByteArray) : Option Int := some (if M.isC a0_0 l0_1 a0_2 a0_3 then 0 else 2)
theorem commit_Check.ne {a b : ByteArray} : (a.toList == b.toList) = decide (a = b) := by
  by_cases h : a = b
  · subst h; simp
  · rw [decide_eq_false h]
    rw [beq_eq_false_iff_ne, M.toList_bs, M.toList_bs]
    exact fun e => h (M.bs_inj e)
theorem commit_Check.loop (n : Int) (ps : List ByteArray) (g note : ByteArray) (hl : ps.length ≤ 2) :
    commit_Check_p.l0 9 ps (ps.length : Int) 0 n ps g note = some (if (∀ p ∈ ps, p.size = 32) ∧ (ps.length = 2 → ps.getD 0 ByteArray.empty ≠ ps.getD 1 ByteArray.empty) then 0 else 2) := by
  match ps, hl with
  | [], _ => rw [commit_Check_p.l0, if_neg (by simp), if_pos ⟨by simp, by simp⟩]
  | [a], _ =>
    have r0 : rdOf ByteArray.empty [a] 0 = a := rfl
    rw [commit_Check_p.l0, if_pos (by simp), if_pos (by decide), if_pos (by simp), r0]
    by_cases ha : a.size = 32
    · rw [if_pos (by omega), if_neg (by decide), commit_Check_p.j2, if_neg (by simp), show wrap64 (0 + 1) = 1 from M.wrap64_id (i := 1) (by decide) (by decide), commit_Check_p.l0, if_neg (by simp), if_pos ⟨by simp [ha], by simp⟩]
    · rw [if_neg (by omega), commit_Check_p.j2, if_pos rfl, if_neg (fun z => ha (z.1 a List.mem_cons_self))]
  | [a, b], _ =>
    have r0 : rdOf ByteArray.empty [a, b] 0 = a := rfl
    have r1 : rdOf ByteArray.empty [a, b] 1 = b := rfl
    rw [commit_Check_p.l0, if_pos (by simp), if_pos (by decide), if_pos (by simp), r0]
    by_cases ha : a.size = 32
    · rw [if_pos (by omega), if_neg (by decide), commit_Check_p.j2, if_neg (by simp), show wrap64 (0 + 1) = 1 from M.wrap64_id (i := 1) (by decide) (by decide), commit_Check_p.l0, if_pos (by simp), if_pos (by decide), if_pos (by simp), r1]
      by_cases hb : b.size = 32
      · rw [if_pos (by omega), if_pos (by decide), if_pos (by simp), r0, commit_Check_p.j2, commit_Check.ne]
        by_cases hab : b = a
        · rw [if_pos (decide_eq_true hab), if_neg (fun z => z.2 rfl hab.symm)]
        · rw [if_neg (by simp [hab]), show wrap64 (1 + 1) = 2 from M.wrap64_id (i := 2) (by decide) (by decide), commit_Check_p.l0, if_neg (by simp), if_pos ⟨by simp [ha, hb], fun _ e => hab e.symm⟩]
      · rw [if_neg (by omega), commit_Check_p.j2, if_pos rfl, if_neg (fun z => hb (z.1 b (by simp)))]
    · rw [if_neg (by omega), commit_Check_p.j2, if_pos rfl, if_neg (fun z => ha (z.1 a List.mem_cons_self))]
theorem commit_Check.ev (n : Int) (ps : List ByteArray) (g note : ByteArray) (r : Int) (h : commit_Check.f n ps g note = some r) : ∃ k, commit_Check_p.f k n ps g note = some r := by
  unfold commit_Check.f at h
  obtain rfl := Option.some.inj h
  refine ⟨10, ?_⟩
  unfold commit_Check_p.f
  by_cases c1 : n < 1
  · rw [if_pos c1, commit_Check_p.j0, if_pos rfl, if_neg (fun z => by have := z.1.1; omega)]
  rw [if_neg c1]
  by_cases c2 : n > 4294967295
  · rw [if_pos c2, commit_Check_p.j0, if_pos rfl, if_neg (fun z => by have := z.1.2; omega)]
  rw [if_neg c2, commit_Check_p.j0]
  by_cases c3 : ps.length > 2
  · rw [if_pos (decide_eq_true (by omega)), if_neg (fun z => by have := z.2.1; omega)]
  rw [if_neg (by simp; omega)]
  by_cases c4 : g.size = 32
  · rw [if_pos (by omega)]
    by_cases c5 : note.size > 40
    · rw [if_pos (by omega), if_neg (fun z => by have := z.2.2.2.1; omega)]
    · rw [if_neg (by omega), commit_Check.loop n ps g note (by omega)]
      congr 1
      by_cases c6 : (∀ p ∈ ps, p.size = 32) ∧ (ps.length = 2 → ps.getD 0 ByteArray.empty ≠ ps.getD 1 ByteArray.empty)
      · rw [if_pos c6, if_pos ⟨⟨by omega, by omega⟩, by omega, c4, by omega, c6⟩]
      · rw [if_neg c6, if_neg (fun z => c6 z.2.2.2.2)]
  · rw [if_neg (by omega), if_neg (fun z => c4 z.2.2.1)]
theorem commit_Check.calls (a0_0 : Int) (A0_1 : Option Addr) (c0_1 : Nat) (l0_1 : List ByteArray) (a0_2 : ByteArray) (a0_3 : ByteArray) (r : Int) (w : World) (hr0_1 : Kd.C Kd.string w A0_1 l0_1.length l0_1) (hc0_1 : l0_1.length ≤ c0_1) (h : commit_Check.f a0_0 l0_1 a0_2 a0_3 = some r) :
    Calls Tryd.prog 18 #[.agg #[.int .i64 a0_0, .slice A0_1 l0_1.length c0_1, .string a0_2, .string a0_3]] w fun e w' => e = .returned (.int .i64 r) ∧ Below w.heap.size w w' := by
  obtain ⟨k, hk⟩ := commit_Check.ev _ _ _ _ _ h
  exact commit_Check_p.calls (k := k) (w := w) (h := hk) (hr0_1 := hr0_1) (hc0_1 := hc0_1)

end Go.Proofs.YtikdbklmhjlfoaaDoor.ECommitPuts
