-- Written by this session's own program (wip/tools/ext.py) for this claim; Lean checks it.
import Derived.Test.YtkaglpjdeinbhaaERefsSetsx0
namespace Go.Proofs.Ytkaglpjdeinbhaa.ERefsSets
open Go.RowKit Go.Proofs.YtkaglpjdeinbhaaW.PrintWords Go.Proofs.YtkaglpjdeinbhaaW.PrintLast Go.Proofs.YtkaglpjdeinbhaaW.PrintMore
attribute [local go_sem] M.run_leq M.run_gtr M.run_geq max2_int min2_int max_two min_two max_three min_three max_four min_four   -- for this text's walks alone
set_option linter.unusedVariables false
set_option linter.unusedSimpArgs false

/-! ### pleachref37_Get_p: function 14 -/
def pleachref37_Get_p.l0 : Nat → Int → ByteArray → List (S42) → Int → Int → Option (ByteArray)
  | 0, _, _, _, _, _ => none
  | k + 1, x1, x2, x9, x10, x11 => if x11 < x10 then (if 0 ≤ x11 then (if x11 < (x9.length : Int) then (if ((rd_T42 x9 x11).f0) = x1 then (if ((rd_T42 x9 x11).f1).toList = x2.toList then (some ((rd_T42 x9 x11).f2)) else (pleachref37_Get_p.l0 k x1 x2 x9 x10 (wrap64 (x11 + 1)))) else (pleachref37_Get_p.l0 k x1 x2 x9 x10 (wrap64 (x11 + 1)))) else (none)) else (none)) else (some (⟨#[]⟩ : ByteArray))
def pleachref37_Get_p.f (k : Nat) (l0 : List (S42)) (a1 : Int) (a2 : ByteArray) : Option (ByteArray) := pleachref37_Get_p.l0 k a1 a2 l0 (l0.length : Int) 0
theorem pleachref37_Get_p.mono_l : ∀ k, (∀ y0 y1 y2 y3 y4, LeO (pleachref37_Get_p.l0 k y0 y1 y2 y3 y4) (pleachref37_Get_p.l0 (k + 1) y0 y1 y2 y3 y4))
  | 0 => fun _ _ _ _ _ r h => by simp [pleachref37_Get_p.l0] at h
  | k + 1 => by
    have ih0 := pleachref37_Get_p.mono_l k
    · intro y0 y1 y2 y3 y4
      unfold pleachref37_Get_p.l0
      repeat' first
      | (with_reducible exact ih0 _ _ _ _ _)
      | (with_reducible exact LeO.refl _)
      | (with_reducible exact LeO.none _)
      | (with_reducible refine LeO.ite ?_ ?_)
      | (with_reducible refine LeO.bind ?_ (fun _ => ?_))
      | exact ih0 _ _ _ _ _
      | exact LeO.none _
      | refine LeO.ite ?_ ?_
      | refine LeO.bind ?_ (fun _ => ?_)
theorem pleachref37_Get_p.mono : ∀ a0 a1 a2 k, LeO (pleachref37_Get_p.f k a0 a1 a2) (pleachref37_Get_p.f (k + 1) a0 a1 a2) := by
  intro a0 a1 a2 k
  have ih0 := pleachref37_Get_p.mono_l k
  unfold pleachref37_Get_p.f
  repeat' first
      | (with_reducible exact ih0 _ _ _ _ _)
      | (with_reducible exact LeO.refl _)
      | (with_reducible exact LeO.none _)
      | (with_reducible refine LeO.ite ?_ ?_)
      | (with_reducible refine LeO.bind ?_ (fun _ => ?_))
      | exact ih0 _ _ _ _ _
      | exact LeO.none _
      | refine LeO.ite ?_ ?_
      | refine LeO.bind ?_ (fun _ => ?_)
set_option maxHeartbeats 8000000 in
set_option maxRecDepth 100000 in
theorem pleachref37_Get_p.calls (k : Nat) (A0 : Option Addr) (c0 : Nat) (l0 : List (S42)) (a1 : Int) (a2 : ByteArray) (r : ByteArray) (w : World) (hr0 : Kd.C k42 w A0 l0.length l0) (hc0 : l0.length ≤ c0) (h : pleachref37_Get_p.f k l0 a1 a2 = some r) :
    Calls Try.prog 14 #[.slice A0 l0.length c0, .int .i64 a1, .string a2] w fun e w' => e = .returned (.string r) ∧ Below w.heap.size w w' := by
  have hu42 := Try.underlying42
  have HR0 := Aside0.mk hr0
  have HC0 := Aside0.mk hc0
  clear hr0 hc0
  have HB := Aside0.mk (Below.refl w.heap.size w)
  have H : (pleachref37_Get_p.l0 k a1 a2 l0 (l0.length : Int) 0) = some r := h
  clear h
  have H' := Aside0.mk H
  clear H
  go_enter Try.func14, Try.ntmps14
  go_wp2
  go_loopg [11] k (fun kq v11 w' => ∃ (x11_1 : Int), v11 = .int .i64 x11_1 ∧ Aside0 (pleachref37_Get_p.l0 kq a1 a2 l0 (l0.length : Int) x11_1 = some r) ∧ Aside0 (kq ≤ k) ∧ Aside0 (Below w.heap.size w w'))
  case atStart => exact ⟨(0), (by first | rfl | (simp; done) | (simp [*]; done) | (simp [M.isEmpty_bne]; done)), H', ⟨Nat.le_refl _⟩, ⟨M.up HB⟩⟩
  case round =>
    clear H'
    try clear c1
    try clear p2
    obtain ⟨x11_1, rfl, HA, HK1, HB⟩ := hrel
    cases gk with
    | zero => exact absurd HA.out (by simp [pleachref37_Get_p.l0])
    | succ k1 =>
      have H := HA.out
      clear HA
      simp only [pleachref37_Get_p.l0] at H
      by_cases c4 : x11_1 < (l0.length : Int)
      · rw [if_pos c4] at H
        have c4b0 : decide (x11_1 < (l0.length : Int)) = true := decide_eq_true c4
        clear c4
        by_cases c5 : 0 ≤ x11_1
        · rw [if_pos c5] at H
          have c5b0 : decide (0 ≤ x11_1) = true := decide_eq_true c5
          clear c5
          by_cases c6 : x11_1 < (l0.length : Int)
          · rw [if_pos c6] at H
            have c6b0 : decide (x11_1 < (l0.length : Int)) = true := decide_eq_true c6
            clear c6
            by_cases c7 : ((rd_T42 l0 x11_1).f0) = a1
            · rw [if_pos c7] at H
              have c7b0 : (((rd_T42 l0 x11_1).f0) == a1) = true := beq_iff_eq.mpr c7
              have c7b1 : (((rd_T42 l0 x11_1).f0) != a1) = false := bne_eq_false_iff_eq.mpr c7
              clear c7
              by_cases c8 : ((rd_T42 l0 x11_1).f1).toList = a2.toList
              · rw [if_pos c8] at H
                have c8b0 : (((rd_T42 l0 x11_1).f1).toList == a2.toList) = true := beq_iff_eq.mpr c8
                have c8b1 : (((rd_T42 l0 x11_1).f1).toList != a2.toList) = false := bne_eq_false_iff_eq.mpr c8
                clear c8
                obtain rfl := Option.some.inj H
                have p150 : 0 ≤ (x11_1 : Int) := of_decide_eq_true (by first | (with_reducible assumption) | assumption)
                have q150 : x11_1 < (l0.length : Int) := of_decide_eq_true (by first | (with_reducible assumption) | assumption)
                obtain ⟨ad150, e150, hx150_0, hx150_1, hx150_2⟩ := at_T42 HR0.out x11_1 p150 q150
                cases e150
                replace hx150_0 := (HB.out.cell (World.block_lt_of_cell? w _ hx150_0)).trans hx150_0
                replace hx150_1 := (HB.out.cell (World.block_lt_of_cell? w _ hx150_1)).trans hx150_1
                replace hx150_2 := (HB.out.cell (World.block_lt_of_cell? w _ hx150_2)).trans hx150_2
                replace p150 := eq_true p150
                replace q150 := eq_true q150
                go_wp2_with (first | ((with_reducible refine gate_dst (N := 8) rfl ?_); refine box_event ?hg (N := 8) ?hd (cs := #[.int .i64 0, .string (⟨#[]⟩ : ByteArray), .string (⟨#[]⟩ : ByteArray)]) (t := 42) ?hr ?_; (case hd => rfl); (case hg => rfl); (case hr => first | (go_simp; done) | (go_simp; rfl)); intro zaa hg w9 hbox hb; have n0_ := M.upS HB hb; have n1_ := Aside0.mk (hbox); have n2_ := M.upG HB hg; have n3_ := M.upG HB hg; clear HB; have HB := n0_; have zab := n1_; have zac := n2_; have zad := n3_; clear n0_ n1_ n2_ n3_; clear hb hbox hg; obtain ⟨zae, zaf, zag⟩ := M.bc3 (w := w9) (a := .int .i64 0) (b := .string (⟨#[]⟩ : ByteArray)) (c := .string (⟨#[]⟩ : ByteArray)) zab.out; obtain ⟨zah, zai, zaj⟩ := M.bf3 zab))
                go_ret
                exact M.fin (M.up HB)
              · rw [if_neg c8] at H
                have c8b0 : (((rd_T42 l0 x11_1).f1).toList == a2.toList) = false := beq_eq_false_iff_ne.mpr c8
                have c8b1 : (((rd_T42 l0 x11_1).f1).toList != a2.toList) = true := bne_iff_ne.mpr c8
                have H' := Aside0.mk H
                clear H
                have p150 : 0 ≤ (x11_1 : Int) := of_decide_eq_true (by first | (with_reducible assumption) | assumption)
                have q150 : x11_1 < (l0.length : Int) := of_decide_eq_true (by first | (with_reducible assumption) | assumption)
                obtain ⟨ad150, e150, hx150_0, hx150_1, hx150_2⟩ := at_T42 HR0.out x11_1 p150 q150
                cases e150
                replace hx150_0 := (HB.out.cell (World.block_lt_of_cell? w _ hx150_0)).trans hx150_0
                replace hx150_1 := (HB.out.cell (World.block_lt_of_cell? w _ hx150_1)).trans hx150_1
                replace hx150_2 := (HB.out.cell (World.block_lt_of_cell? w _ hx150_2)).trans hx150_2
                replace p150 := eq_true p150
                replace q150 := eq_true q150
                go_wp2_with (first | ((with_reducible refine gate_dst (N := 8) rfl ?_); refine box_event ?hg (N := 8) ?hd (cs := #[.int .i64 0, .string (⟨#[]⟩ : ByteArray), .string (⟨#[]⟩ : ByteArray)]) (t := 42) ?hr ?_; (case hd => rfl); (case hg => rfl); (case hr => first | (go_simp; done) | (go_simp; rfl)); intro zaa hg w11 hbox hb; have n0_ := M.upS HB hb; have n1_ := Aside0.mk (hbox); have n2_ := M.upG HB hg; have n3_ := M.upG HB hg; clear HB; have HB := n0_; have zab := n1_; have zac := n2_; have zad := n3_; clear n0_ n1_ n2_ n3_; clear hb hbox hg; obtain ⟨zak, zal, zam⟩ := M.bc3 (w := w11) (a := .int .i64 0) (b := .string (⟨#[]⟩ : ByteArray)) (c := .string (⟨#[]⟩ : ByteArray)) zab.out; obtain ⟨zan, zao, zap⟩ := M.bf3 zab))
                go_roundg k1
                case measure => have := HK1.out; omega
                case rel => exact ⟨(wrap64 (x11_1 + 1)), (by first | rfl | (simp; done) | (simp [*]; done) | (simp [M.isEmpty_bne]; done)), H', ⟨by have := HK1.out; omega⟩, ⟨M.up HB⟩⟩
            · rw [if_neg c7] at H
              have c7b0 : (((rd_T42 l0 x11_1).f0) == a1) = false := beq_eq_false_iff_ne.mpr c7
              have c7b1 : (((rd_T42 l0 x11_1).f0) != a1) = true := bne_iff_ne.mpr c7
              have H' := Aside0.mk H
              clear H
              have p150 : 0 ≤ (x11_1 : Int) := of_decide_eq_true (by first | (with_reducible assumption) | assumption)
              have q150 : x11_1 < (l0.length : Int) := of_decide_eq_true (by first | (with_reducible assumption) | assumption)
              obtain ⟨ad150, e150, hx150_0, hx150_1, hx150_2⟩ := at_T42 HR0.out x11_1 p150 q150
              cases e150
              replace hx150_0 := (HB.out.cell (World.block_lt_of_cell? w _ hx150_0)).trans hx150_0
              replace hx150_1 := (HB.out.cell (World.block_lt_of_cell? w _ hx150_1)).trans hx150_1
              replace hx150_2 := (HB.out.cell (World.block_lt_of_cell? w _ hx150_2)).trans hx150_2
              replace p150 := eq_true p150
              replace q150 := eq_true q150
              go_wp2_with (first | ((with_reducible refine gate_dst (N := 8) rfl ?_); refine box_event ?hg (N := 8) ?hd (cs := #[.int .i64 0, .string (⟨#[]⟩ : ByteArray), .string (⟨#[]⟩ : ByteArray)]) (t := 42) ?hr ?_; (case hd => rfl); (case hg => rfl); (case hr => first | (go_simp; done) | (go_simp; rfl)); intro zaa hg w13 hbox hb; have n0_ := M.upS HB hb; have n1_ := Aside0.mk (hbox); have n2_ := M.upG HB hg; have n3_ := M.upG HB hg; clear HB; have HB := n0_; have zab := n1_; have zac := n2_; have zad := n3_; clear n0_ n1_ n2_ n3_; clear hb hbox hg; obtain ⟨zaq, zar, zas⟩ := M.bc3 (w := w13) (a := .int .i64 0) (b := .string (⟨#[]⟩ : ByteArray)) (c := .string (⟨#[]⟩ : ByteArray)) zab.out; obtain ⟨zat, zau, zav⟩ := M.bf3 zab))
              go_roundg k1
              case measure => have := HK1.out; omega
              case rel => exact ⟨(wrap64 (x11_1 + 1)), (by first | rfl | (simp; done) | (simp [*]; done) | (simp [M.isEmpty_bne]; done)), H', ⟨by have := HK1.out; omega⟩, ⟨M.up HB⟩⟩
          · rw [if_neg c6] at H
            exact absurd H (by simp)
        · rw [if_neg c5] at H
          exact absurd H (by simp)
      · rw [if_neg c4] at H
        have c4b0 : decide (x11_1 < (l0.length : Int)) = false := decide_eq_false c4
        clear c4
        obtain rfl := Option.some.inj H
        go_wp2
        go_ret
        exact M.fin (M.up HB)

-- this session's own plain form
def pleachref37_Get.f (l0 : List S42) (a1 : Int) (a2 : ByteArray) : Option ByteArray := if l0.length ≤ 9223372036854775807 then some (M.rget S42.f0 S42.f1 S42.f2 l0 a1 a2) else none
theorem pleachref37_Get.loop (l : List S42) (hl : l.length ≤ 9223372036854775807) (k : Int) (s : ByteArray) (d : Nat) : ∀ i, i + d = l.length → pleachref37_Get_p.l0 (d + 1) k s l (l.length : Int) (i : Int) = some (M.rget S42.f0 S42.f1 S42.f2 (l.drop i) k s) := by
  induction d with
  | zero =>
    intro i hi
    rw [pleachref37_Get_p.l0, if_neg (by omega), List.drop_of_length_le (by omega)]; rfl
  | succ d ih =>
    intro i hi
    have hlt : i < l.length := by omega
    have hd : l.drop i = rd_T42 l (i : Int) :: l.drop (i + 1) := by
      rw [List.drop_eq_getElem_cons hlt]
      congr 1
      unfold rd_T42
      simp [hlt]
    rw [pleachref37_Get_p.l0, if_pos (by omega), if_pos (by omega), if_pos (by omega), M.wrap64_id (by omega) (by omega), show (i : Int) + 1 = ((i + 1 : Nat) : Int) by omega, ih (i + 1) (by omega), hd]
    generalize rd_T42 l (i : Int) = x
    unfold M.rget
    by_cases c1 : x.f0 = k
    · rw [if_pos c1]
      by_cases c2 : x.f1 = s
      · rw [if_pos (M.text_inj.2 c2), List.find?_cons_of_pos (show M.req S42.f0 S42.f1 k s x = true from decide_eq_true ⟨c1, c2⟩)]; rfl
      · rw [if_neg (fun z => c2 (M.text_inj.1 z)), List.find?_cons_of_neg (by rw [show M.req S42.f0 S42.f1 k s x = false from decide_eq_false (fun z => c2 z.2)]; decide)]
    · rw [if_neg c1, List.find?_cons_of_neg (by rw [show M.req S42.f0 S42.f1 k s x = false from decide_eq_false (fun z => c1 z.1)]; decide)]
theorem pleachref37_Get.ev (l : List S42) (k : Int) (s : ByteArray) (r : ByteArray) (h : pleachref37_Get.f l k s = some r) : ∃ n, pleachref37_Get_p.f n l k s = some r := by
  unfold pleachref37_Get.f at h
  split at h
  case isFalse => cases h
  case isTrue hh =>
    rw [← h]
    refine ⟨l.length + 1, ?_⟩
    have := pleachref37_Get.loop l hh k s l.length 0 (by omega)
    rw [Int.ofNat_zero, List.drop_zero] at this
    exact this
theorem pleachref37_Get.calls (A0 : Option Addr) (c0 : Nat) (l0 : List (S42)) (a1 : Int) (a2 : ByteArray) (r : ByteArray) (w : World) (hr0 : Kd.C k42 w A0 l0.length l0) (hc0 : l0.length ≤ c0) (h : pleachref37_Get.f l0 a1 a2 = some r) :
    Calls Try.prog 14 #[.slice A0 l0.length c0, .int .i64 a1, .string a2] w fun e w' => e = .returned (.string r) ∧ Below w.heap.size w w' := by
  obtain ⟨k, hk⟩ := pleachref37_Get.ev _ _ _ _ h
  exact pleachref37_Get_p.calls (k := k) (w := w) (h := hk) (hr0 := hr0) (hc0 := hc0)

end Go.Proofs.Ytkaglpjdeinbhaa.ERefsSets
