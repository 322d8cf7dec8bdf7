-- Written by this session's own program (wip/tools/ext.py) for this claim; Lean checks it.
import Derived.Test.YtccekjebfafgcaaDoorEShelfPlaysx0
import Derived.Test.YtccekjebfafgcaaDoorEShelfPlaysx1
import Derived.Test.YtccekjebfafgcaaDoorEShelfPlaysx2
import Derived.Test.YtccekjebfafgcaaDoorEShelfPlaysx6
import Derived.Test.YtccekjebfafgcaaDoorEShelfPlaysx7
import Derived.Test.YtccekjebfafgcaaDoorEShelfPlaysx8
import Derived.Test.YtccekjebfafgcaaDoorEShelfPlaysx9
namespace Go.Proofs.YtccekjebfafgcaaDoor.EShelfPlays
open Go.RowKit Go.Proofs.YtccekjebfafgcaaDoorW.PrintWords Go.Proofs.YtccekjebfafgcaaDoorW.PrintLast Go.Proofs.YtccekjebfafgcaaDoorW.PrintMore
attribute [local go_sem] M.run_leq M.run_gtr M.run_geq max2_int min2_int max_two min_two max_three min_three max_four min_four   -- for this text's walks alone
set_option linter.unusedVariables false
set_option linter.unusedSimpArgs false

/-! ### pleachref16_Get_p: function 18 -/
def pleachref16_Get_p.l0 : Nat → ByteArray → Int → List ByteArray → List ByteArray → ByteArray → ByteArray → Option (ByteArray × Bool)
  | 0, _, _, _, _, _, _ => none
  | k + 1, x1, x6, zaa, zab, zac, zad => if x6 < (zaa.length : Int) then (if 0 ≤ x6 then (if x6 < (zab.length : Int) then (if (rdOf ByteArray.empty zab x6).toList = x1.toList then (some (rdOf ByteArray.empty zaa x6, true)) else (pleachref16_Get_p.l0 k x1 (wrap64 (x6 + 1)) zaa zab zac zad)) else (none)) else (none)) else (some ((⟨#[]⟩ : ByteArray), false))
def pleachref16_Get_p.f (k : Nat) (l0_0 : List ByteArray) (l0_1 : List ByteArray) (a0_2 : ByteArray) (a0_3 : ByteArray) (a1 : ByteArray) : Option (ByteArray × Bool) := pleachref16_Get_p.l0 k a1 0 l0_0 l0_1 a0_2 a0_3
theorem pleachref16_Get_p.mono_l : ∀ k, (∀ y0 y1 y2 y3 y4 y5, LeO (pleachref16_Get_p.l0 k y0 y1 y2 y3 y4 y5) (pleachref16_Get_p.l0 (k + 1) y0 y1 y2 y3 y4 y5))
  | 0 => fun _ _ _ _ _ _ r h => by simp [pleachref16_Get_p.l0] at h
  | k + 1 => by
    have ih0 := pleachref16_Get_p.mono_l k
    · intro y0 y1 y2 y3 y4 y5
      unfold pleachref16_Get_p.l0
      repeat' first
      | (with_reducible exact ih0 _ _ _ _ _ _)
      | (with_reducible exact LeO.refl _)
      | (with_reducible exact LeO.none _)
      | (with_reducible refine LeO.ite ?_ ?_)
      | (with_reducible refine LeO.bind ?_ (fun _ => ?_))
      | exact ih0 _ _ _ _ _ _
      | exact LeO.none _
      | refine LeO.ite ?_ ?_
      | refine LeO.bind ?_ (fun _ => ?_)
theorem pleachref16_Get_p.mono : ∀ a0 a1 a2 a3 a4 k, LeO (pleachref16_Get_p.f k a0 a1 a2 a3 a4) (pleachref16_Get_p.f (k + 1) a0 a1 a2 a3 a4) := by
  intro a0 a1 a2 a3 a4 k
  have ih0 := pleachref16_Get_p.mono_l k
  unfold pleachref16_Get_p.f
  repeat' first
      | (with_reducible exact ih0 _ _ _ _ _ _)
      | (with_reducible exact LeO.refl _)
      | (with_reducible exact LeO.none _)
      | (with_reducible refine LeO.ite ?_ ?_)
      | (with_reducible refine LeO.bind ?_ (fun _ => ?_))
      | exact ih0 _ _ _ _ _ _
      | exact LeO.none _
      | refine LeO.ite ?_ ?_
      | refine LeO.bind ?_ (fun _ => ?_)
set_option maxHeartbeats 8000000 in
set_option maxRecDepth 100000 in
theorem pleachref16_Get_p.calls (k : Nat) (A0_0 : Option Addr) (c0_0 : Nat) (l0_0 : List ByteArray) (A0_1 : Option Addr) (c0_1 : Nat) (l0_1 : List ByteArray) (a0_2 : ByteArray) (a0_3 : ByteArray) (a1 : ByteArray) (r1 : ByteArray) (r2 : Bool) (w : World) (hr0_0 : Kd.C Kd.string w A0_0 l0_0.length l0_0) (hc0_0 : l0_0.length ≤ c0_0) (hr0_1 : Kd.C Kd.string w A0_1 l0_1.length l0_1) (hc0_1 : l0_1.length ≤ c0_1) (h : pleachref16_Get_p.f k l0_0 l0_1 a0_2 a0_3 a1 = some (r1, r2)) :
    Calls Tryd.prog 18 #[.agg #[.slice A0_0 l0_0.length c0_0, .slice A0_1 l0_1.length c0_1, .string a0_2, .string a0_3], .string a1] w fun e w' => e = .returned (.tuple #[.string r1, .bool r2]) ∧ Below w.heap.size w w' := by
  have hu41 := Tryd.underlying41
  have HR0_0 := Aside0.mk hr0_0
  have HC0_0 := Aside0.mk hc0_0
  clear hr0_0 hc0_0
  have HR0_1 := Aside0.mk hr0_1
  have HC0_1 := Aside0.mk hc0_1
  clear hr0_1 hc0_1
  have HB := Aside0.mk (Below.refl w.heap.size w)
  have H : (pleachref16_Get_p.l0 k a1 0 l0_0 l0_1 a0_2 a0_3) = some (r1, r2) := h
  clear h
  have H' := Aside0.mk H
  clear H
  go_enter Tryd.func18, Tryd.ntmps18
  go_wp2_with (first | ((with_reducible refine gate_dst (N := 2) rfl ?_); refine box_event ?hg (N := 2) ?hd (cs := #[.slice A0_0 l0_0.length c0_0, .slice A0_1 l0_1.length c0_1, .string a0_2, .string a0_3]) (t := 41) ?hr ?_; (case hd => rfl); (case hg => rfl); (case hr => first | (go_simp; done) | (go_simp; rfl)); intro zae hg w3 hbox hb; have n0_ := M.upS HB hb; have n1_ := Aside0.mk (hbox); have n2_ := M.upG HB hg; have n3_ := M.upG HB hg; clear HB; have HB := n0_; have zaf := n1_; have zag := n2_; have zah := n3_; clear n0_ n1_ n2_ n3_; clear hb hbox hg))
  go_loopg [6] k (fun kq v6 w' => ∃ (x6_1 : Int), v6 = .int .i64 x6_1 ∧ Aside0 (pleachref16_Get_p.l0 kq a1 x6_1 l0_0 l0_1 a0_2 a0_3 = some (r1, r2)) ∧ Aside0 (kq ≤ k) ∧ Aside0 (w'.heap[zae]? = some (.cells #[(.slice A0_0 l0_0.length c0_0), (.slice A0_1 l0_1.length c0_1), .string a0_2, .string a0_3] 41 (0, 0))) ∧ Aside0 (Below w.heap.size w w'))
  case atStart => exact ⟨(0), (by first | rfl | (simp; done) | (simp [*]; done) | (simp [M.isEmpty_bne]; done)), H', ⟨Nat.le_refl _⟩, ⟨by (with_reducible repeat (first | refine blk_drewN ?_ _ | refine blk_drew ?_ | refine blk_alloc ?_ _)); exact zaf.out⟩, ⟨M.up HB⟩⟩
  case round =>
    clear H'
    try clear c1
    try clear p2
    obtain ⟨x6_1, rfl, HA, HK1, zaf, HB⟩ := hrel
    cases gk with
    | zero => exact absurd HA.out (by simp [pleachref16_Get_p.l0])
    | succ k1 =>
      have H := HA.out
      clear HA
      simp only [pleachref16_Get_p.l0] at H
      by_cases c4 : x6_1 < (l0_0.length : Int)
      · rw [if_pos c4] at H
        have c4b0 : decide (x6_1 < (l0_0.length : Int)) = true := decide_eq_true c4
        clear c4
        by_cases c5 : 0 ≤ x6_1
        · rw [if_pos c5] at H
          have c5b0 : decide (0 ≤ x6_1) = true := decide_eq_true c5
          clear c5
          by_cases c6 : x6_1 < (l0_1.length : Int)
          · rw [if_pos c6] at H
            have c6b0 : decide (x6_1 < (l0_1.length : Int)) = true := decide_eq_true c6
            clear c6
            by_cases c7 : (rdOf ByteArray.empty l0_1 x6_1).toList = a1.toList
            · rw [if_pos c7] at H
              have c7b0 : ((rdOf ByteArray.empty l0_1 x6_1).toList == a1.toList) = true := beq_iff_eq.mpr c7
              have c7b1 : ((rdOf ByteArray.empty l0_1 x6_1).toList != a1.toList) = false := bne_eq_false_iff_eq.mpr c7
              clear c7
              simp only [Option.some.injEq, Prod.mk.injEq] at H
              obtain ⟨rfl, rfl⟩ := H
              have zai : wr.cell? ⟨zae, 0, none⟩ = some (.slice A0_0 l0_0.length c0_0) := (blk_cell zaf.out 0).trans rfl
              have zaj : wr.cell? ⟨zae, 1, none⟩ = some (.slice A0_1 l0_1.length c0_1) := (blk_cell zaf.out 1).trans rfl
              have zak : wr.cell? ⟨zae, 2, none⟩ = some (.string a0_2) := (blk_cell zaf.out 2).trans rfl
              have zal : wr.cell? ⟨zae, 3, none⟩ = some (.string a0_3) := (blk_cell zaf.out 3).trans rfl
              have zam := blk_frozen zaf.out 0
              have zan := blk_frozen zaf.out 1
              have zao := blk_frozen zaf.out 2
              have zap := blk_frozen zaf.out 3
              have p180 : 0 ≤ (x6_1 : Int) := of_decide_eq_true (by first | (with_reducible assumption) | assumption)
              have q180 : x6_1 < (l0_1.length : Int) := of_decide_eq_true (by first | (with_reducible assumption) | assumption)
              obtain ⟨ad180, e180, hx180_0⟩ := Kd.at_string HR0_1.out x6_1 p180 q180
              cases e180
              replace hx180_0 := (HB.out.cell (World.block_lt_of_cell? w _ hx180_0)).trans hx180_0
              replace p180 := eq_true p180
              replace q180 := eq_true q180
              have p181 : 0 ≤ (x6_1 : Int) := of_decide_eq_true (by first | (with_reducible assumption) | assumption)
              have q181 : x6_1 < (l0_0.length : Int) := of_decide_eq_true (by first | (with_reducible assumption) | assumption)
              obtain ⟨ad181, e181, hx181_0⟩ := Kd.at_string HR0_0.out x6_1 p181 q181
              cases e181
              replace hx181_0 := (HB.out.cell (World.block_lt_of_cell? w _ hx181_0)).trans hx181_0
              replace p181 := eq_true p181
              replace q181 := eq_true q181
              go_wp2
              go_ret2
              exact M.fin (M.up HB)
            · rw [if_neg c7] at H
              have c7b0 : ((rdOf ByteArray.empty l0_1 x6_1).toList == a1.toList) = false := beq_eq_false_iff_ne.mpr c7
              have c7b1 : ((rdOf ByteArray.empty l0_1 x6_1).toList != a1.toList) = true := bne_iff_ne.mpr c7
              have H' := Aside0.mk H
              clear H
              have zaq : wr.cell? ⟨zae, 0, none⟩ = some (.slice A0_0 l0_0.length c0_0) := (blk_cell zaf.out 0).trans rfl
              have zar : wr.cell? ⟨zae, 1, none⟩ = some (.slice A0_1 l0_1.length c0_1) := (blk_cell zaf.out 1).trans rfl
              have zas : wr.cell? ⟨zae, 2, none⟩ = some (.string a0_2) := (blk_cell zaf.out 2).trans rfl
              have zat : wr.cell? ⟨zae, 3, none⟩ = some (.string a0_3) := (blk_cell zaf.out 3).trans rfl
              have zau := blk_frozen zaf.out 0
              have zav := blk_frozen zaf.out 1
              have zaw := blk_frozen zaf.out 2
              have zax := blk_frozen zaf.out 3
              have p180 : 0 ≤ (x6_1 : Int) := of_decide_eq_true (by first | (with_reducible assumption) | assumption)
              have q180 : x6_1 < (l0_1.length : Int) := of_decide_eq_true (by first | (with_reducible assumption) | assumption)
              obtain ⟨ad180, e180, hx180_0⟩ := Kd.at_string HR0_1.out x6_1 p180 q180
              cases e180
              replace hx180_0 := (HB.out.cell (World.block_lt_of_cell? w _ hx180_0)).trans hx180_0
              replace p180 := eq_true p180
              replace q180 := eq_true q180
              go_wp2
              go_roundg k1
              case measure => have := HK1.out; omega
              case rel => exact ⟨(wrap64 (x6_1 + 1)), (by first | rfl | (simp; done) | (simp [*]; done) | (simp [M.isEmpty_bne]; done)), H', ⟨by have := HK1.out; omega⟩, ⟨by (with_reducible repeat (first | refine blk_drewN ?_ _ | refine blk_drew ?_ | refine blk_alloc ?_ _)); exact zaf.out⟩, ⟨M.up HB⟩⟩
          · rw [if_neg c6] at H
            exact absurd H (by simp)
        · rw [if_neg c5] at H
          exact absurd H (by simp)
      · rw [if_neg c4] at H
        have c4b0 : decide (x6_1 < (l0_0.length : Int)) = false := decide_eq_false c4
        clear c4
        simp only [Option.some.injEq, Prod.mk.injEq] at H
        obtain ⟨rfl, rfl⟩ := H
        have zay : wr.cell? ⟨zae, 0, none⟩ = some (.slice A0_0 l0_0.length c0_0) := (blk_cell zaf.out 0).trans rfl
        have zaz : wr.cell? ⟨zae, 1, none⟩ = some (.slice A0_1 l0_1.length c0_1) := (blk_cell zaf.out 1).trans rfl
        have zaA : wr.cell? ⟨zae, 2, none⟩ = some (.string a0_2) := (blk_cell zaf.out 2).trans rfl
        have zaB : wr.cell? ⟨zae, 3, none⟩ = some (.string a0_3) := (blk_cell zaf.out 3).trans rfl
        have zaC := blk_frozen zaf.out 0
        have zaD := blk_frozen zaf.out 1
        have zaE := blk_frozen zaf.out 2
        have zaF := blk_frozen zaf.out 3
        go_wp2
        go_ret2
        exact M.fin (M.up HB)

-- this session's own plain form
def pleachref16_Get.f (l0 l1 : List ByteArray) (a b name : ByteArray) : Option (ByteArray × Bool) := if l1 = l0.map M.shaSum ∧ l0.length ≤ 1000000000000 then some ((⟨l0, a, b⟩ : M.SS).get name) else none
theorem pleachref16_Get.loop (ts : List ByteArray) (a b name : ByteArray) (hl : ts.length ≤ 1000000000000) (d : Nat) : ∀ i : Nat, i + d = ts.length → (∀ j, j < i → (ts.map M.shaSum).getD j ByteArray.empty ≠ name) →
    pleachref16_Get_p.l0 (d + 1) name (i : Int) ts (ts.map M.shaSum) a b = some ((⟨ts, a, b⟩ : M.SS).get name) := by
  induction d with
  | zero =>
    intro i hi hb
    have hn : M.idx (ts.map M.shaSum) name.data.toList = none := by
      cases hq : M.idx (ts.map M.shaSum) name.data.toList with
      | none => rfl
      | some j =>
        have h1 := M.idx_lt hq
        rw [List.length_map] at h1
        exact absurd (M.data_inj h1.2) (hb j (by omega))
    rw [pleachref16_Get_p.l0, if_neg (by omega)]
    unfold M.SS.get
    simp only [hn]
    rfl
  | succ d ih =>
    intro i hi hb
    have hlt : i < ts.length := by omega
    have hlm : i < (ts.map M.shaSum).length := by rw [List.length_map]; exact hlt
    have hrd : rdOf ByteArray.empty ts (i : Int) = ts.getD i ByteArray.empty := by simp [rdOf]
    have hrd' : rdOf ByteArray.empty (ts.map M.shaSum) (i : Int) = (ts.map M.shaSum).getD i ByteArray.empty := by simp [rdOf]
    rw [pleachref16_Get_p.l0, if_pos (by omega), if_pos (by omega), if_pos (by rw [List.length_map]; omega), hrd, hrd', M.toList_bs, M.toList_bs]
    by_cases h : (ts.map M.shaSum).getD i ByteArray.empty = name
    · have hs : M.idx (ts.map M.shaSum) name.data.toList = some i := by
        unfold M.idx
        rw [List.findIdx?_eq_some_iff_getElem]
        refine ⟨hlm, ?_, ?_⟩
        · rw [← h]; simp [List.getD, hlt]
        · intro j hj
          have := hb j hj
          simp only [decide_eq_true_eq]
          intro e
          refine this ?_
          have e2 := M.data_inj e
          rw [← e2, List.getD_eq_getElem?_getD, List.getElem?_eq_getElem (by omega), Option.getD_some]
      rw [if_pos (by rw [h])]
      unfold M.SS.get
      simp only [hs]
    · rw [if_neg (fun z => h (M.bs_inj z)), M.wrap64_id (by omega) (by omega), show (i : Int) + 1 = ((i + 1 : Nat) : Int) from by omega]
      refine ih (i + 1) (by omega) ?_
      intro j hj
      rcases Nat.lt_or_ge j i with q | q
      · exact hb j q
      · obtain rfl : j = i := by omega
        exact h
theorem pleachref16_Get.ev (l0 l1 : List ByteArray) (a b name : ByteArray) (r : ByteArray × Bool) (h : pleachref16_Get.f l0 l1 a b name = some r) : ∃ k, pleachref16_Get_p.f k l0 l1 a b name = some r := by
  unfold pleachref16_Get.f at h
  split at h
  case isFalse => cases h
  case isTrue hh =>
    refine ⟨l0.length + 1, ?_⟩
    rw [← h, hh.1]
    exact pleachref16_Get.loop l0 a b name hh.2 l0.length 0 (by omega) (fun j hj => absurd hj (by omega))
theorem pleachref16_Get.calls (A0_0 : Option Addr) (c0_0 : Nat) (l0_0 : List ByteArray) (A0_1 : Option Addr) (c0_1 : Nat) (l0_1 : List ByteArray) (a0_2 : ByteArray) (a0_3 : ByteArray) (a1 : ByteArray) (r1 : ByteArray) (r2 : Bool) (w : World) (hr0_0 : Kd.C Kd.string w A0_0 l0_0.length l0_0) (hc0_0 : l0_0.length ≤ c0_0) (hr0_1 : Kd.C Kd.string w A0_1 l0_1.length l0_1) (hc0_1 : l0_1.length ≤ c0_1) (h : pleachref16_Get.f l0_0 l0_1 a0_2 a0_3 a1 = some (r1, r2)) :
    Calls Tryd.prog 18 #[.agg #[.slice A0_0 l0_0.length c0_0, .slice A0_1 l0_1.length c0_1, .string a0_2, .string a0_3], .string a1] w fun e w' => e = .returned (.tuple #[.string r1, .bool r2]) ∧ Below w.heap.size w w' := by
  obtain ⟨k, hk⟩ := pleachref16_Get.ev _ _ _ _ _ _ h
  exact pleachref16_Get_p.calls (k := k) (w := w) (h := hk) (hr0_0 := hr0_0) (hc0_0 := hc0_0) (hr0_1 := hr0_1) (hc0_1 := hc0_1)

/-! ### shelf_Shelf_Has: function 19 -/
set_option maxHeartbeats 4000000 in
set_option maxRecDepth 100000 in
theorem shelf_Shelf_Has.dead (v : Value) (t : ByteArray) (w : World) (hd : shelf_Shelf_there.dead_ w v) :
    Calls Tryd.prog 19 #[v, .string t] w fun e w' => e = .returned (.bool false) ∧ Drawn0 w w' := by
  have HD := Aside0.mk hd
  clear hd
  go_enter Tryd.func19, Tryd.ntmps19
  go_wp2_with (first | (go_at_call 13; (with_reducible refine (shelf_Shelf_Get.dead v t _ HD.out).mono ?_); rintro e w1 ⟨rfl, hw1⟩))
  go_ret
  exact ⟨rfl, hw1⟩
set_option maxHeartbeats 4000000 in
set_option maxRecDepth 100000 in
theorem shelf_Shelf_Has.any (base g : Nat) (F : Nat → Prop) (s : M.SS) (name : ByteArray) (w : World) (hS : M.Sh Tryd.prog base w g F s) (hz : name.size ≤ 1000000000000) :
    Calls Tryd.prog 19 #[.pointer (some ⟨g, 0, none⟩), .string name] w fun e w' => e = .returned (.bool (s.get name).2) ∧ w = w' := by
  have HS := Aside0.mk hS
  have hG := fun W (h : M.Sh Tryd.prog base W g F s) => shelf_Shelf_Get.any base g F s name W h hz
  have HG := Aside0.mk hG
  clear hS hG
  go_enter Tryd.func19, Tryd.ntmps19
  go_wp2_with (first | (go_at_call 13; (with_reducible refine (HG.out _ HS.out).mono ?_); rintro e w1 ⟨rfl, rfl⟩))
  go_ret
  exact ⟨rfl, rfl⟩

/-! ### pleachlaw16_ShelfPlays: function 5 -/
/-- Whatever is played, it is as the document says. -/
def pleachlaw16_ShelfPlays.f (l0 : List S38) (a1 : ByteArray) (a2 : Int) : Option Bool := some true
/-- How far the acts went. -/
def pleachlaw16_ShelfPlays.st (l : List S38) (k : Nat) : M.SS := (l.take k).foldl (fun s x => pleachlaw16_does.act s x.f0 x.f1 x.f2) M.SS.none_
structure pleachlaw16_ShelfPlays.Inv (k : Nat) (s : M.SS) : Prop where
  few : s.ts.length ≤ k
  size : ∀ x ∈ s.ts, x.size ≤ 10000
  ab : s.a = ByteArray.empty → s.b = ByteArray.empty
theorem pleachlaw16_ShelfPlays.put_ab (s : M.SS) (t : ByteArray) (h : s.a = ByteArray.empty → s.b = ByteArray.empty) (hne : ∀ x ∈ s.ts, x ≠ ByteArray.empty) : (s.put t).2.2.a = ByteArray.empty → (s.put t).2.2.b = ByteArray.empty := by
  unfold M.SS.put
  split
  · exact h
  · split
    · exact h
    · split
      · exact h
      · rename_i i hi
        split
        · exact h
        · simp only
          split
          · intro e
            have hl := (M.idx_lt hi).1
            rw [List.length_map] at hl
            exact absurd e (hne _ (M.getD_mem hl))
          · exact h
theorem pleachlaw16_ShelfPlays.put_ne (s : M.SS) (t : ByteArray) (hne : ∀ x ∈ s.ts, x ≠ ByteArray.empty) : ∀ x ∈ (s.put t).2.2.ts, x ≠ ByteArray.empty := by
  intro x hx
  unfold M.SS.put at hx
  split at hx
  · exact hne x hx
  · rename_i h0
    split at hx
    · exact hne x hx
    · split at hx
      · rcases List.mem_append.1 hx with h | h
        · exact hne x h
        · rw [List.mem_singleton.1 h]; exact h0
      · split at hx
        · exact hne x hx
        · simp only at hx
          split at hx <;> exact hne x hx
theorem pleachlaw16_ShelfPlays.fold_ (l : List ByteArray) : ∀ s : M.SS, (∀ x ∈ s.ts, x ≠ ByteArray.empty) → (s.a = ByteArray.empty → s.b = ByteArray.empty) → (∀ x ∈ (l.foldl (fun q t => (q.put t).2.2) s).ts, x ≠ ByteArray.empty ∧ (x ∈ s.ts ∨ x ∈ l)) ∧ ((l.foldl (fun q t => (q.put t).2.2) s).a = ByteArray.empty → (l.foldl (fun q t => (q.put t).2.2) s).b = ByteArray.empty) := by
  induction l with
  | nil => intro s h1 h2; exact ⟨fun x hx => ⟨h1 x hx, .inl hx⟩, h2⟩
  | cons t l ih =>
    intro s h1 h2
    obtain ⟨h3, h4⟩ := ih (s.put t).2.2 (pleachlaw16_ShelfPlays.put_ne s t h1) (pleachlaw16_ShelfPlays.put_ab s t h2 h1)
    refine ⟨fun x hx => ?_, h4⟩
    obtain ⟨h5, h6⟩ := h3 x hx
    refine ⟨h5, ?_⟩
    rcases h6 with h6 | h6
    · exact (M.SS.put_mem s t x h6).imp id (fun e => by rw [e]; exact List.mem_cons_self)
    · exact .inr (List.mem_cons_of_mem _ h6)
/-- .. with no empty text. -/
structure pleachlaw16_ShelfPlays.Inv2 (k : Nat) (s : M.SS) : Prop extends pleachlaw16_ShelfPlays.Inv k s where
  ne : ∀ x ∈ s.ts, x ≠ ByteArray.empty
theorem pleachlaw16_ShelfPlays.inv0 : pleachlaw16_ShelfPlays.Inv2 0 M.SS.none_ := ⟨⟨Nat.zero_le _, fun x h => absurd h List.not_mem_nil, fun _ => rfl⟩, fun x h => absurd h List.not_mem_nil⟩
theorem pleachlaw16_ShelfPlays.invS {n : Nat} {s : M.SS} (h : pleachlaw16_ShelfPlays.Inv2 n s) (k N : Int) (t : ByteArray) (ht : t.size ≤ 10000) : pleachlaw16_ShelfPlays.Inv2 (n + 1) (pleachlaw16_does.act s k N t) := by
  unfold pleachlaw16_does.act
  split
  · refine ⟨⟨?_, ?_, pleachlaw16_ShelfPlays.put_ab s t h.ab h.ne⟩, pleachlaw16_ShelfPlays.put_ne s t h.ne⟩
    · have := M.SS.put_len s t; have := h.few; omega
    · intro x hx
      rcases M.SS.put_mem s t x hx with q | q
      · exact h.size x q
      · rw [q]; exact ht
  · split
    · split
      · exact ⟨⟨by have := h.few; omega, h.size, h.ab⟩, h.ne⟩
      · refine ⟨⟨?_, fun x hx => h.size x (List.mem_of_mem_take hx), h.ab⟩, fun x hx => h.ne x (List.mem_of_mem_take hx)⟩
        show (s.ts.take N.toNat).length ≤ n + 1
        have := List.length_take_le N.toNat s.ts
        have := List.length_take_le' N.toNat s.ts
        have := h.few
        omega
    · obtain ⟨ts, a, b⟩ := s
      have hf := pleachlaw16_ShelfPlays.fold_ ((ts.take ts.length).filter fun t => pleachlaw16_even.p (M.shaSum t)) M.SS.none_ (fun x h => absurd h List.not_mem_nil) (fun _ => rfl)
      have hl := M.SS.only_len pleachlaw16_even.p ts a b ts.length
      refine ⟨⟨?_, ?_, hf.2⟩, fun x hx => (hf.1 x hx).1⟩
      · have := h.few
        simp only at this ⊢
        omega
      · intro x hx
        rcases (hf.1 x hx).2 with q | q
        · exact absurd q List.not_mem_nil
        · exact h.size x (List.mem_of_mem_take (List.mem_filter.1 q).1)
theorem pleachlaw16_ShelfPlays.each (l : List S38) : ∀ x ∈ l, min x.f2.size 10000 ≤ pleachlaw16_few.sum_ l := by
  induction l with
  | nil => intro x h; exact absurd h List.not_mem_nil
  | cons y l ih =>
    intro x hx
    rw [pleachlaw16_few.sum_]
    rcases List.mem_cons.1 hx with rfl | hx
    · omega
    · have := ih x hx; omega
theorem pleachlaw16_ShelfPlays.few_ {l : List S38} (h : pleachlaw16_few.f l = some true) : l.length ≤ 40 ∧ ∀ x ∈ l, x.f2.size ≤ 4000 := by
  unfold pleachlaw16_few.f at h
  have h := Option.some.inj h
  rw [Bool.and_eq_true] at h
  have h1 := of_decide_eq_true h.1
  have h2 := of_decide_eq_true h.2
  rw [List.take_of_length_le (by omega)] at h2
  exact ⟨h1, fun x hx => by have := pleachlaw16_ShelfPlays.each l x hx; omega⟩
theorem pleachlaw16_ShelfPlays.st_succ (l : List S38) (k : Nat) (hk : k < l.length) : pleachlaw16_ShelfPlays.st l (k + 1) = pleachlaw16_does.act (pleachlaw16_ShelfPlays.st l k) (rd_T38 l (k : Int)).f0 (rd_T38 l (k : Int)).f1 (rd_T38 l (k : Int)).f2 := by
  unfold pleachlaw16_ShelfPlays.st
  have hrd : rd_T38 l (k : Int) = l[k] := by simp [rd_T38, List.getD, hk]
  rw [List.take_succ_eq_append_getElem hk, List.foldl_append, hrd]
  rfl
theorem pleachlaw16_ShelfPlays.inv (l : List S38) (hz : ∀ x ∈ l, x.f2.size ≤ 4000) : ∀ k, k ≤ l.length → pleachlaw16_ShelfPlays.Inv2 k (pleachlaw16_ShelfPlays.st l k)
  | 0, _ => pleachlaw16_ShelfPlays.inv0
  | k + 1, hk => by
    have hk' : k < l.length := by omega
    have hrd : rd_T38 l (k : Int) = l[k] := by simp [rd_T38, List.getD, hk']
    rw [pleachlaw16_ShelfPlays.st_succ l k hk']
    exact pleachlaw16_ShelfPlays.invS (pleachlaw16_ShelfPlays.inv l hz k (by omega)) _ _ _ (by rw [hrd]; have := hz _ (List.getElem_mem hk'); omega)
theorem pleachlaw16_ShelfPlays.size38 : (Tryd.prog.info? 38).map (·.size) = some 3 := by kernel_rfl
set_option maxHeartbeats 8000000 in
set_option maxRecDepth 100000 in
theorem pleachlaw16_ShelfPlays.out1 (AL : Option Addr) (cl : Nat) (l : List S38) (nm : ByteArray) (n : Int) (w : World) (hr : Kd.C k38 w AL l.length l) (hcl : l.length ≤ cl) (hT : M.stab w) (hf : pleachlaw16_few.f l = some false) :
    Calls Tryd.prog 5 #[.slice AL l.length cl, .string nm, .int .i64 n] w fun e w' => e = .returned (.bool true) ∧ Below w.heap.size w w' := by
  have HT := Aside0.mk hT
  have hlt := Aside0.mk (M.stab_lt hT)
  have HR := Aside0.mk hr
  have HF := Aside0.mk hf
  clear hT hr hf
  go_enter Tryd.func5, Tryd.ntmps5
  go_wp2_with (first | (go_at_call 14; (with_reducible refine (pleachlaw16_few.calls AL cl l false _ HR.out hcl HF.out).mono ?_); rintro e w1 ⟨rfl, hb1⟩; have HB1 := Aside0.mk hb1; have HT1 := Aside0.mk (M.stab_below HT.out hb1 hlt.out); clear hb1) | (go_at_call 8; (with_reducible refine (pleachlaw16_awake.walk _ HT1.out).mono ?_); rintro e w9 ⟨rfl, hb9⟩; have HB9 := Aside0.mk (below_step HB1.out hb9); clear hb9))
  go_ret
  exact ⟨rfl, HB9.out⟩
set_option maxHeartbeats 8000000 in
set_option maxRecDepth 100000 in
theorem pleachlaw16_ShelfPlays.out2 (AL : Option Addr) (cl : Nat) (l : List S38) (nm : ByteArray) (n : Int) (w : World) (hr : Kd.C k38 w AL l.length l) (hcl : l.length ≤ cl) (hT : M.stab w) (hf : pleachlaw16_few.f l = some true) (hn : 1000 < nm.size) :
    Calls Tryd.prog 5 #[.slice AL l.length cl, .string nm, .int .i64 n] w fun e w' => e = .returned (.bool true) ∧ Below w.heap.size w w' := by
  have HT := Aside0.mk hT
  have hlt := Aside0.mk (M.stab_lt hT)
  have HR := Aside0.mk hr
  have HF := Aside0.mk hf
  have hd : decide ((1000 : Int) < (nm.size : Int)) = true := decide_eq_true (by omega)
  clear hT hr hf
  go_enter Tryd.func5, Tryd.ntmps5
  go_wp2_with (first | (go_at_call 14; (with_reducible refine (pleachlaw16_few.calls AL cl l true _ HR.out hcl HF.out).mono ?_); rintro e w1 ⟨rfl, hb1⟩; have HB1 := Aside0.mk hb1; have HT1 := Aside0.mk (M.stab_below HT.out hb1 hlt.out); clear hb1) | (go_at_call 8; (with_reducible refine (pleachlaw16_awake.walk _ HT1.out).mono ?_); rintro e w9 ⟨rfl, hb9⟩; have HB9 := Aside0.mk (below_step HB1.out hb9); clear hb9))
  go_ret
  exact ⟨rfl, HB9.out⟩
theorem pleachlaw16_ShelfPlays.get_ (base g : Nat) (F : Nat → Prop) (s : M.SS) (name x : ByteArray) (ok : Bool) (w : World) (hS : M.Sh Tryd.prog base w g F s) (hz : name.size ≤ 1000000000000) (h : s.get name = (x, ok)) :
    Calls Tryd.prog 13 #[.pointer (some ⟨g, 0, none⟩), .string name] w fun e w' => e = .returned (.tuple #[.string x, .bool ok]) ∧ w = w' := by
  have := shelf_Shelf_Get.any base g F s name w hS hz
  rw [h] at this
  exact this
theorem pleachlaw16_ShelfPlays.has_ (base g : Nat) (F : Nat → Prop) (s : M.SS) (name x : ByteArray) (ok : Bool) (w : World) (hS : M.Sh Tryd.prog base w g F s) (hz : name.size ≤ 1000000000000) (h : s.get name = (x, ok)) :
    Calls Tryd.prog 19 #[.pointer (some ⟨g, 0, none⟩), .string name] w fun e w' => e = .returned (.bool ok) ∧ w = w' := by
  have := shelf_Shelf_Has.any base g F s name w hS hz
  rw [h] at this
  exact this
theorem pleachlaw16_ShelfPlays.rget_ (base g : Nat) (F : Nat → Prop) (s q : M.SS) (A0 A1 : Option Addr) (c0 c1 : Nat) (name x : ByteArray) (ok : Bool) (w : World) (h : M.Two Tryd.prog base w g F s q A0 A1 c0 c1) (hf : pleachref16_Get.f q.ts (q.ts.map M.shaSum) q.a q.b name = some (x, ok)) :
    Calls Tryd.prog 18 #[.agg #[.slice A0 q.ts.length c0, .slice A1 q.ts.length c1, .string q.a, .string q.b], .string name] w fun e w' => e = .returned (.tuple #[.string x, .bool ok]) ∧ Below w.heap.size w w' := by
  have := pleachref16_Get.calls A0 c0 q.ts A1 c1 (q.ts.map M.shaSum) q.a q.b name x ok w h.r0 h.h0 h.r1 (by rw [List.length_map]; exact h.h1) hf
  rw [List.length_map] at this
  exact this
theorem pleachlaw16_ShelfPlays.texts (base g : Nat) (F : Nat → Prop) (s q : M.SS) (A0 A1 : Option Addr) (c0 c1 : Nat) (m : Nat) (w : World) (h : M.Two Tryd.prog base w g F s q A0 A1 c0 c1) (hm : m ≤ s.ts.length) (hts : s.ts.length ≤ 1000000) :
    Calls Tryd.prog 21 #[.pointer (some ⟨g, 0, none⟩), .int .i64 (m : Int)] w fun e w' => ∃ A c, e = .returned (.slice A (s.ts.drop m).length c) ∧ Kd.R Kd.string 9 w' w.heap.size (fun _ => True) (.slice A (s.ts.drop m).length c) (s.ts.drop m) ∧ Below w.heap.size w w' := by
  obtain ⟨B, D, vt, vn, hs, hF, hl⟩ := h.sh
  refine (shelf_Shelf_Texts.calls base g B D vt vn s.ts s.a s.b m w hs (by omega) hm).mono ?_
  rintro e w' ⟨v, rfl, ho, hb⟩
  obtain ⟨A, c, rfl⟩ := Kd.R_slice ho
  exact ⟨A, c, rfl, ho, hb⟩
theorem pleachlaw16_ShelfPlays.notx (base g : Nat) (F : Nat → Prop) (s q : M.SS) (A0 A1 : Option Addr) (c0 c1 : Nat) (n : Int) (w : World) (h : M.Two Tryd.prog base w g F s q A0 A1 c0 c1) (hn : n < 0 ∨ (s.ts.length : Int) < n) :
    Calls Tryd.prog 21 #[.pointer (some ⟨g, 0, none⟩), .int .i64 n] w fun e w' => e = .returned (.slice none 0 0) ∧ w = w' := by
  obtain ⟨B, D, vt, vn, hs, hF, hl⟩ := h.sh
  exact shelf_Shelf_Texts.no base g B D vt vn s.ts s.a s.b n w hs hn
theorem pleachlaw16_ShelfPlays.eqt (Ax A0 : Option Addr) (cx c0 : Nat) (ts : List ByteArray) (w : World) {B : Nat} (h1 : Kd.R Kd.string 9 w B (fun _ => True) (.slice Ax ts.length cx) ts) (h2 : Kd.C Kd.string w A0 ts.length ts) (hc : ts.length ≤ c0) (hl : ts.length ≤ 1000000) :
    Calls Tryd.prog 20 #[.slice Ax ts.length cx, .slice A0 ts.length c0] w fun e w' => e = .returned (.bool true) ∧ Drawn0 w w' :=
  pleachplain_Texts.calls Ax cx ts A0 c0 ts true w (Kd.R_reads' h1).2.2 (Kd.R_reads' h1).2.1 h2 hc (by unfold pleachplain_Texts.f; rw [if_pos (by omega)]; simp)
theorem pleachlaw16_ShelfPlays.eqn (w : World) : Calls Tryd.prog 20 #[.slice none 0 0, .slice none 0 0] w fun e w' => e = .returned (.bool true) ∧ Drawn0 w w' :=
  pleachplain_Texts.calls none 0 [] none 0 [] true w ⟨rfl, by simp, fun h => absurd h (by simp)⟩ (Nat.le_refl _) ⟨rfl, by simp, fun h => absurd h (by simp)⟩ (Nat.le_refl _) (by unfold pleachplain_Texts.f; rw [if_pos (by simp)]; simp)
set_option maxHeartbeats 8000000 in
set_option maxRecDepth 100000 in
theorem pleachlaw16_ShelfPlays.in_ (AL : Option Addr) (cl : Nat) (l : List S38) (nm : ByteArray) (n : Int) (w : World) (hr : Kd.C k38 w AL l.length l) (hcl : l.length ≤ cl) (hT : M.stab w) (hf : pleachlaw16_few.f l = some true) (hn : nm.size ≤ 1000) :
    Calls Tryd.prog 5 #[.slice AL l.length cl, .string nm, .int .i64 n] w fun e w' => e = .returned (.bool true) ∧ Below w.heap.size w w' := by
  have HT := Aside0.mk hT
  have hlt := Aside0.mk (M.stab_lt hT)
  have HR := Aside0.mk hr
  have HF := Aside0.mk hf
  obtain ⟨hl40, hz⟩ := pleachlaw16_ShelfPlays.few_ hf
  have HZ := Aside0.mk hz
  have hd : decide ((1000 : Int) < (nm.size : Int)) = false := decide_eq_false (by omega)
  clear hT hr hf hz
  go_enter Tryd.func5, Tryd.ntmps5
  go_wp2_with (first | (go_at_call 14; (with_reducible refine (pleachlaw16_few.calls AL cl l true _ HR.out hcl HF.out).mono ?_); rintro e w1 ⟨rfl, hb1⟩; have HB1 := Aside0.mk hb1; have HT1 := Aside0.mk (M.stab_below HT.out hb1 hlt.out); clear hb1) | (go_at_call 9; (with_reducible refine (shelf_New.any _).mono ?_); rintro e w2 ⟨g, F, rfl, hs2, hb2⟩; have HS2 := Aside0.mk (M.Sh.lower hs2 HB1.out.size); have HG2 := Aside0.mk (M.Sh.lt hs2); have HB2 := Aside0.mk (below_step HB1.out hb2); clear hs2 hb2) | ((with_reducible refine gate_store (t := 41) (p := 8) (v := .tmp 27) rfl ?_); refine M.wp_rec_store rfl 41 _ _ rfl w2.heap.size 41 [.slice none 0 0, .slice none 0 0, .string ⟨#[]⟩, .string ⟨#[]⟩] [.slice none 0 0, .slice none 0 0, .string ⟨#[]⟩, .string ⟨#[]⟩] rfl rfl (M.rec_new w2 41 [.slice none 0 0, .slice none 0 0, .string ⟨#[]⟩, .string ⟨#[]⟩]) rfl pleachref16_Put.size_ rfl ?_; intro w3 hA3 hF3 hB3 hz3; have hy := hB3 w2.heap.size w2 (Nat.le_refl _) (below_alloc (Below.refl _ _) _); have HC3 := Aside0.mk hA3; have HS3 := Aside0.mk (HS2.out.below hy); have HB3 := Aside0.mk (below_step HB2.out hy); have HL3 := Aside0.mk (M.rec_lt hA3); clear hA3 hF3 hB3 hz3 hy))
  have HW2 := Aside0.mk HB2.out.size
  go_loopg [7, 30] (l.length) (fun kq v7 v30 wr => ∃ (k g : Nat) (F : Nat → Prop) (s : M.SS) (A0 A1 : Option Addr) (c0 c1 : Nat), v7 = .pointer (some ⟨g, 0, none⟩) ∧ v30 = .int .i64 (k : Int) ∧ k ≤ l.length ∧ Aside0 (kq = l.length - k) ∧ Aside0 (s = pleachlaw16_ShelfPlays.st l k) ∧ Aside0 (Below w.heap.size w wr) ∧ Aside0 (M.rec_ wr w2.heap.size 41 [.slice A0 s.ts.length c0, .slice A1 s.ts.length c1, .string s.a, .string s.b]) ∧ Aside0 (M.Two Tryd.prog w.heap.size wr g F s s A0 A1 c0 c1) ∧ Aside0 (¬ F w2.heap.size))
  case atStart => exact ⟨0, g, F, M.SS.none_, none, none, 0, 0, rfl, rfl, Nat.zero_le _, ⟨rfl⟩, ⟨rfl⟩, HB3, HC3, ⟨M.Two.mk_ HS3.out⟩, ⟨fun q => by have := HG2.out _ q; omega⟩⟩
  case round =>
    clear HS2 HB2 HC3 HS3 HB3 HG2
    obtain ⟨k, g, F, s, A0, A1, c0, c1, rfl, rfl, hk, hkq, HQ, HB, HC, H2, HNF⟩ := hrel
    have HI := Aside0.mk (show pleachlaw16_ShelfPlays.Inv2 k s from by rw [HQ.out]; exact pleachlaw16_ShelfPlays.inv l HZ.out k hk)
    have hfew := HI.out.few
    by_cases hlt2 : k < l.length
    · obtain ⟨x, hx⟩ : ∃ x, rd_T38 l (k : Int) = x := ⟨_, rfl⟩
      obtain ⟨s1, hs1⟩ : ∃ s1, pleachlaw16_does.act s x.f0 x.f1 x.f2 = s1 := ⟨_, rfl⟩
      have HI1 := Aside0.mk (show pleachlaw16_ShelfPlays.Inv2 (k + 1) s1 from by
        have := pleachlaw16_ShelfPlays.inv l HZ.out (k + 1) (by omega)
        rw [pleachlaw16_ShelfPlays.st_succ l k hlt2, ← HQ.out, hx, hs1] at this
        exact this)
      have HQ1 := Aside0.mk (show s1 = pleachlaw16_ShelfPlays.st l (k + 1) from by rw [pleachlaw16_ShelfPlays.st_succ l k hlt2, ← HQ.out, hx, hs1])
      have hf1 := HI1.out.few
      have HZS := Aside0.mk (fun y (hy : y ∈ s.ts) => Nat.le_trans (HI.out.size y hy) (show 10000 ≤ 1000000 by decide))
      have hxz : x.f2.size ≤ 4000 := by
        have hrd : rd_T38 l (k : Int) = l[k] := by simp [rd_T38, List.getD, hlt2]
        rw [← hx, hrd]
        exact HZ.out _ (List.getElem_mem hlt2)
      obtain ⟨ad, hAL, e0, e1, e2⟩ := at_T38 HR.out (k : Int) (by omega) (by omega)
      rw [hx, Int.toNat_natCast] at e0 e1 e2
      subst hAL
      have q0 := (HB.out.cell (World.block_lt_of_cell? w _ e0)).trans e0
      have q1 := (HB.out.cell (World.block_lt_of_cell? w _ e1)).trans e1
      have q2 := (HB.out.cell (World.block_lt_of_cell? w _ e2)).trans e2
      have HST := Aside0.mk hs1
      have p1 : (k : Int) < (l.length : Int) := by omega
      have p2 : (0 : Int) ≤ (k : Int) := by omega
      have p3 := decide_eq_true p1
      clear e0 e1 e2 hx hs1
      go_wp2_with (first | ((with_reducible refine gate_store (t := 38) (p := 10) (v := .tmp 33) rfl ?_); refine M.wp_rec_store rfl 38 _ _ rfl wr.heap.size 38 [.int .i64 0, .int .i64 0, .string ⟨#[]⟩] [.int .i64 x.f0, .int .i64 x.f1, .string x.f2] rfl rfl (M.rec_new wr 38 [.int .i64 0, .int .i64 0, .string ⟨#[]⟩]) rfl pleachlaw16_ShelfPlays.size38 rfl ?_; intro w4 hA4 hF4 hB4 hz4; have hy := hB4 wr.heap.size wr (Nat.le_refl _) (below_alloc (Below.refl _ _) _); have HX4 := Aside0.mk hA4; have HC4 := Aside0.mk (M.rec_below HC.out hy); have H24 := Aside0.mk (H2.out.below hy); have HB4 := Aside0.mk (below_step HB.out hy); have HT4 := Aside0.mk (M.stab_below HT.out HB4.out hlt.out); clear hA4 hF4 hB4 hz4 hy) | ((with_reducible refine gate_dst (N := 36) rfl ?_); (try (refine gate_guard (by rfl) ?_; dsimp only)); refine M.wp_rec_load rfl 41 _ rfl (w2.heap.size) 41 [.slice A0 s.ts.length c0, .slice A1 s.ts.length c1, .string s.a, .string s.b] rfl HC4.out _ Tryd.underlying41 rfl pleachref16_Put.size_ ?_) | ((with_reducible refine gate_dst (N := 37) rfl ?_); (try (refine gate_guard (by rfl) ?_; dsimp only)); refine M.wp_rec_load rfl 38 _ rfl (wr.heap.size) 38 [.int .i64 x.f0, .int .i64 x.f1, .string x.f2] rfl HX4.out _ Tryd.underlying38 rfl pleachlaw16_ShelfPlays.size38 ?_) | (go_at_call 15; (with_reducible refine (pleachlaw16_does.any w.heap.size g F s A0 A1 c0 c1 x.f0 x.f1 x.f2 _ H24.out HT4.out (by omega) HZS.out (by omega) s1 HST.out).mono ?_); rintro e w5 ⟨g1, F1, E0, E1, f0, f1, rfl, h25, hf5, hk5, hb5⟩; have H25 := Aside0.mk h25; have HC5 := Aside0.mk (M.rec_kept HC4.out hk5 HNF.out); have HN5 := Aside0.mk (show ¬ F1 w2.heap.size from fun q => (hf5 _ q).elim HNF.out (fun q => by have := M.rec_lt HC4.out; omega)); have HB5 := Aside0.mk (HB4.out.trans hb5); clear h25 hf5 hk5 hb5) | ((with_reducible refine gate_store (t := 41) (p := 8) (v := .tmp 40) rfl ?_); refine M.wp_rec_store rfl 41 _ _ rfl w2.heap.size 41 [.slice A0 s.ts.length c0, .slice A1 s.ts.length c1, .string s.a, .string s.b] [.slice E0 s1.ts.length f0, .slice E1 s1.ts.length f1, .string s1.a, .string s1.b] rfl rfl HC5.out rfl pleachref16_Put.size_ rfl ?_; intro w6 hA6 hF6 hB6 hz6; have hk6 : Kept w5 w6 (fun k => k = w2.heap.size) := ⟨Nat.le_of_eq hz6.symm, fun i _ hn => hF6 i hn⟩; have HC6 := Aside0.mk hA6; have H26 := Aside0.mk (H25.out.box hk6 HC5.out (by decide) HN5.out); have HB6 := Aside0.mk (hB6 _ _ HW2.out HB5.out); clear hA6 hF6 hB6 hz6 hk6) | ((with_reducible refine gate_dst (N := 46) rfl ?_); (try (refine gate_guard (by rfl) ?_; dsimp only)); refine M.wp_rec_load rfl 41 _ rfl (w2.heap.size) 41 [.slice E0 s1.ts.length f0, .slice E1 s1.ts.length f1, .string s1.a, .string s1.b] rfl HC6.out _ Tryd.underlying41 rfl pleachref16_Put.size_ ?_) | (go_at_call 17; (with_reducible refine (pleachlaw16_same.yes w.heap.size g1 F1 s1 E0 E1 f0 f1 _ H26.out HI1.out.ab (by omega)).mono ?_); rintro e w7 ⟨rfl, hb7⟩; have H27 := Aside0.mk (H26.out.below hb7); have HC7 := Aside0.mk (M.rec_below HC6.out hb7); have HB7 := Aside0.mk (below_step HB6.out hb7); clear hb7))
      go_roundg (l.length - (k + 1))
      case measure => have := hkq.out; omega
      case rel => exact ⟨k + 1, g1, F1, s1, E0, E1, f0, f1, rfl, by go_num, by omega, ⟨rfl⟩, HQ1, HB7, HC7, H27, HN5⟩
    · obtain rfl : k = l.length := by omega
      have p3 : decide ((l.length : Int) < (l.length : Int)) = false := decide_eq_false (by omega)
      clear hlt2 hk HQ
      obtain ⟨y, hy⟩ : ∃ y, s.get nm = y := ⟨_, rfl⟩
      have HGet := Aside0.mk hy
      have HRG := Aside0.mk (show pleachref16_Get.f s.ts (s.ts.map M.shaSum) s.a s.b nm = some y from by unfold pleachref16_Get.f; rw [if_pos ⟨rfl, by omega⟩]; exact congrArg some hy)
      obtain ⟨x, ok⟩ := y
      have hq1 : (x.toList == x.toList) = true := by simp
      have hq2 : (ok == ok) = true := by simp
      have b0 : wr.cell? ⟨w2.heap.size, 0, none⟩ = some (.slice A0 s.ts.length c0) := M.rec_cell HC.out 0 _ rfl
      have hc0 := H2.out.h0
      clear hy
      by_cases hN0 : n < 0
      · have hd0 : decide ((0 : Int) ≤ n) = false := decide_eq_false (by omega)
        have HNT := Aside0.mk (fun W (h : M.Two Tryd.prog w.heap.size W g F s s A0 A1 c0 c1) => pleachlaw16_ShelfPlays.notx w.heap.size g F s s A0 A1 c0 c1 n W h (.inl hN0))
        go_wp2_with (first | (go_at_call 13; (with_reducible refine (pleachlaw16_ShelfPlays.get_ w.heap.size g F s nm x ok _ H2.out.sh (by omega) HGet.out).mono ?_); rintro e wx ⟨rfl, rfl⟩) | ((with_reducible refine gate_dst (N := 58) rfl ?_); (try (refine gate_guard (by rfl) ?_; dsimp only)); refine M.wp_rec_load rfl 41 _ rfl (w2.heap.size) 41 [.slice A0 s.ts.length c0, .slice A1 s.ts.length c1, .string s.a, .string s.b] rfl HC.out _ Tryd.underlying41 rfl pleachref16_Put.size_ ?_) | (go_at_call 18; (with_reducible refine (pleachlaw16_ShelfPlays.rget_ w.heap.size g F s s A0 A1 c0 c1 nm x ok _ H2.out HRG.out).mono ?_); rintro e wg ⟨rfl, hb⟩; have H2g := Aside0.mk (H2.out.below hb); have HBg := Aside0.mk (below_step HB.out hb); have HCg := Aside0.mk (M.rec_below HC.out hb); have b0g : wg.cell? ⟨w2.heap.size, 0, none⟩ = some (.slice A0 s.ts.length c0) := M.rec_cell HCg.out 0 _ rfl; clear hb) | (go_at_call 19; (with_reducible refine (pleachlaw16_ShelfPlays.has_ w.heap.size g F s nm x ok _ H2g.out.sh (by omega) HGet.out).mono ?_); rintro e wx ⟨rfl, rfl⟩) | (go_at_call 21; (with_reducible refine (HNT.out _ H2g.out).mono ?_); rintro e wt ⟨rfl, rfl⟩) | (go_at_call 20; (with_reducible refine (pleachlaw16_ShelfPlays.eqn _).mono ?_); rintro e wu ⟨rfl, hd⟩; have HBu := Aside0.mk (below_step HBg.out hd.below); have HTu := Aside0.mk (M.stab_below HT.out HBu.out hlt.out); clear hd) | (go_at_call 8; (with_reducible refine (pleachlaw16_awake.walk _ HTu.out).mono ?_); rintro e w9 ⟨rfl, hb9⟩; have HB9 := Aside0.mk (below_step HBu.out hb9); clear hb9))
        go_ret
        exact ⟨rfl, HB9.out⟩
      · by_cases hN1 : (s.ts.length : Int) < n
        · have hd0 : decide ((0 : Int) ≤ n) = true := decide_eq_true (by omega)
          have hd1 : decide (n ≤ (s.ts.length : Int)) = false := decide_eq_false (by omega)
          have HNT := Aside0.mk (fun W (h : M.Two Tryd.prog w.heap.size W g F s s A0 A1 c0 c1) => pleachlaw16_ShelfPlays.notx w.heap.size g F s s A0 A1 c0 c1 n W h (.inr hN1))
          go_wp2_with (first | (go_at_call 13; (with_reducible refine (pleachlaw16_ShelfPlays.get_ w.heap.size g F s nm x ok _ H2.out.sh (by omega) HGet.out).mono ?_); rintro e wx ⟨rfl, rfl⟩) | ((with_reducible refine gate_dst (N := 58) rfl ?_); (try (refine gate_guard (by rfl) ?_; dsimp only)); refine M.wp_rec_load rfl 41 _ rfl (w2.heap.size) 41 [.slice A0 s.ts.length c0, .slice A1 s.ts.length c1, .string s.a, .string s.b] rfl HC.out _ Tryd.underlying41 rfl pleachref16_Put.size_ ?_) | (go_at_call 18; (with_reducible refine (pleachlaw16_ShelfPlays.rget_ w.heap.size g F s s A0 A1 c0 c1 nm x ok _ H2.out HRG.out).mono ?_); rintro e wg ⟨rfl, hb⟩; have H2g := Aside0.mk (H2.out.below hb); have HBg := Aside0.mk (below_step HB.out hb); have HCg := Aside0.mk (M.rec_below HC.out hb); have b0g : wg.cell? ⟨w2.heap.size, 0, none⟩ = some (.slice A0 s.ts.length c0) := M.rec_cell HCg.out 0 _ rfl; clear hb) | (go_at_call 19; (with_reducible refine (pleachlaw16_ShelfPlays.has_ w.heap.size g F s nm x ok _ H2g.out.sh (by omega) HGet.out).mono ?_); rintro e wx ⟨rfl, rfl⟩) | (go_at_call 21; (with_reducible refine (HNT.out _ H2g.out).mono ?_); rintro e wt ⟨rfl, rfl⟩) | (go_at_call 20; (with_reducible refine (pleachlaw16_ShelfPlays.eqn _).mono ?_); rintro e wu ⟨rfl, hd⟩; have HBu := Aside0.mk (below_step HBg.out hd.below); have HTu := Aside0.mk (M.stab_below HT.out HBu.out hlt.out); clear hd) | (go_at_call 8; (with_reducible refine (pleachlaw16_awake.walk _ HTu.out).mono ?_); rintro e w9 ⟨rfl, hb9⟩; have HB9 := Aside0.mk (below_step HBu.out hb9); clear hb9))
          go_ret
          exact ⟨rfl, HB9.out⟩
        · obtain ⟨m, rfl⟩ : ∃ m : Nat, n = (m : Int) := ⟨n.toNat, by omega⟩
          have hm : m ≤ s.ts.length := by omega
          have hd0 : decide ((0 : Int) ≤ (m : Int)) = true := decide_eq_true (by omega)
          have hd1 : decide ((m : Int) ≤ (s.ts.length : Int)) = true := decide_eq_true (by omega)
          have hd2 : decide (m ≤ s.ts.length) = true := decide_eq_true hm
          obtain ⟨A', hA'⟩ : ∃ A', (if c0 = m then A0 else A0.map (·.add (m * Kd.string.sz))) = A' := ⟨_, rfl⟩
          have HTL := Aside0.mk (show ∀ W, M.Two Tryd.prog w.heap.size W g F s s A0 A1 c0 c1 → Kd.C Kd.string W A' (s.ts.drop m).length (s.ts.drop m) from fun W h => by rw [← hA']; exact Kd.C_drop h.r0 hm hc0)
          have hsl := M.slice_tail' (P := Tryd.prog) 22 9 Tryd.underlying22 Tryd.sizeOf9 A0 s.ts.length c0 m hm hc0
          rw [show (if c0 = m then A0 else A0.map (·.add (m * 1))) = A' from hA'] at hsl
          rw [show s.ts.length - m = (s.ts.drop m).length from List.length_drop.symm] at hsl
          have HDL := Aside0.mk (show (s.ts.drop m).length ≤ c0 - m from by rw [List.length_drop]; omega)
          have HTX := Aside0.mk (fun W (h : M.Two Tryd.prog w.heap.size W g F s s A0 A1 c0 c1) => pleachlaw16_ShelfPlays.texts w.heap.size g F s s A0 A1 c0 c1 m W h hm (by omega))
          obtain ⟨xs, hxs⟩ : ∃ xs, s.ts.drop m = xs := ⟨_, rfl⟩
          rw [hxs] at HTL hsl HDL HTX
          have hxl : xs.length ≤ 1000000 := by rw [← hxs, List.length_drop]; omega
          clear hA' hxs
          go_wp2_with (first | (go_at_call 13; (with_reducible refine (pleachlaw16_ShelfPlays.get_ w.heap.size g F s nm x ok _ H2.out.sh (by omega) HGet.out).mono ?_); rintro e wx ⟨rfl, rfl⟩) | ((with_reducible refine gate_dst (N := 58) rfl ?_); (try (refine gate_guard (by rfl) ?_; dsimp only)); refine M.wp_rec_load rfl 41 _ rfl (w2.heap.size) 41 [.slice A0 s.ts.length c0, .slice A1 s.ts.length c1, .string s.a, .string s.b] rfl HC.out _ Tryd.underlying41 rfl pleachref16_Put.size_ ?_) | (go_at_call 18; (with_reducible refine (pleachlaw16_ShelfPlays.rget_ w.heap.size g F s s A0 A1 c0 c1 nm x ok _ H2.out HRG.out).mono ?_); rintro e wg ⟨rfl, hb⟩; have H2g := Aside0.mk (H2.out.below hb); have HBg := Aside0.mk (below_step HB.out hb); have HCg := Aside0.mk (M.rec_below HC.out hb); have b0g : wg.cell? ⟨w2.heap.size, 0, none⟩ = some (.slice A0 s.ts.length c0) := M.rec_cell HCg.out 0 _ rfl; clear hb) | (go_at_call 19; (with_reducible refine (pleachlaw16_ShelfPlays.has_ w.heap.size g F s nm x ok _ H2g.out.sh (by omega) HGet.out).mono ?_); rintro e wx ⟨rfl, rfl⟩) | (go_at_call 21; (with_reducible refine (HTX.out _ H2g.out).mono ?_); rintro e wt ⟨Ax, cx, rfl, ho, hb⟩; have HOt := Aside0.mk ho; have H2t := Aside0.mk (H2g.out.below hb); have HBt := Aside0.mk (below_step HBg.out hb); clear ho hb) | (go_at_call 20; (with_reducible refine (pleachlaw16_ShelfPlays.eqt Ax A' cx (c0 - m) xs _ HOt.out (HTL.out _ H2t.out) HDL.out hxl).mono ?_); rintro e wu ⟨rfl, hd⟩; have HBu := Aside0.mk (below_step HBt.out hd.below); have HTu := Aside0.mk (M.stab_below HT.out HBu.out hlt.out); clear hd) | (go_at_call 8; (with_reducible refine (pleachlaw16_awake.walk _ HTu.out).mono ?_); rintro e w9 ⟨rfl, hb9⟩; have HB9 := Aside0.mk (below_step HBu.out hb9); clear hb9))
          go_ret
          exact ⟨rfl, HB9.out⟩
theorem pleachlaw16_ShelfPlays.calls (A0 : Option Addr) (c0 : Nat) (l0 : List S38) (a1 : ByteArray) (a2 : Int) (r : Bool) (w : World) (hr0 : Kd.C k38 w A0 l0.length l0) (hc0 : l0.length ≤ c0) (hT : M.stab w) (h : pleachlaw16_ShelfPlays.f l0 a1 a2 = some r) :
    Calls Tryd.prog 5 #[.slice A0 l0.length c0, .string a1, .int .i64 a2] w fun e w' => e = .returned (.bool r) ∧ Below w.heap.size w w' := by
  obtain rfl := Option.some.inj h
  obtain ⟨b, hb⟩ : ∃ b, pleachlaw16_few.f l0 = some b := ⟨_, rfl⟩
  cases b with
  | false => exact pleachlaw16_ShelfPlays.out1 A0 c0 l0 a1 a2 w hr0 hc0 hT hb
  | true =>
    by_cases hn : a1.size ≤ 1000
    · exact pleachlaw16_ShelfPlays.in_ A0 c0 l0 a1 a2 w hr0 hc0 hT hb hn
    · exact pleachlaw16_ShelfPlays.out2 A0 c0 l0 a1 a2 w hr0 hc0 hT hb (by omega)

/-- What is known of a record that came in. -/
def Good38 (x : S38) : Prop := ((Lit.int .i64 x.f0).wf = true) ∧ ((Lit.int .i64 x.f1).wf = true) ∧ (x.f2.size ≤ 9223372036854775807)
/-- THE ONE PURE STATEMENT of pleachlaw16_ShelfPlays: this session's form. -/
def pleachlaw16_ShelfPlays.Pure : Prop := ∀ (l0 : List (S38)) (a1 : ByteArray) (a2 : Int), ((∀ y ∈ l0, Good38 y) ∧ l0.length ≤ 9223372036854775807) → (a1.size ≤ 140737488351232) → ((Lit.int .i64 a2).wf = true) → pleachlaw16_ShelfPlays.f l0 a1 a2 = some true
end Go.Proofs.YtccekjebfafgcaaDoor.EShelfPlays
