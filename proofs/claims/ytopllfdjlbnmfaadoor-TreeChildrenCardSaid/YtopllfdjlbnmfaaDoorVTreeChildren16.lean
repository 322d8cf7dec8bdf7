-- Laid by this session's own program (wip/tools/fold.py): this session's texts, cut to what the claim names and put together; Lean checks it.
import Derived.Test.YtopllfdjlbnmfaaDoorVTreeChildren1
import Derived.Test.YtopllfdjlbnmfaaDoorVTreeChildren3
import Derived.Test.YtopllfdjlbnmfaaDoorVTreeChildren7
import Derived.Test.YtopllfdjlbnmfaaDoorVTreeChildren9
import Derived.Test.YtopllfdjlbnmfaaDoorVTreeChildren10
import Derived.Test.YtopllfdjlbnmfaaDoorVTreeChildren14
import Derived.Test.YtopllfdjlbnmfaaDoorVTreeChildren15
import Derived.Test.YtopllfdjlbnmfaaDoorXTreeChildren1
namespace Go.Proofs.YtopllfdjlbnmfaaDoor.ETreeChildren
open Go.RowKit Go.Proofs.YtopllfdjlbnmfaaDoorW.PrintWords Go.Proofs.YtopllfdjlbnmfaaDoorW.PrintLast Go.Proofs.YtopllfdjlbnmfaaDoorW.PrintMore
attribute [local go_sem] M.run_leq M.run_gtr M.run_geq max2_int min2_int max_two min_two max_three min_three max_four min_four
set_option linter.unusedVariables false
set_option linter.unusedSimpArgs false
set_option maxHeartbeats 8000000 in
set_option maxRecDepth 100000 in
theorem pleachref19_Same.eq (r1 : Int) (r2 : List S78) (r3 : List Int) (B1 B2 E1 E2 : Option Addr) (d1 d2 f1 f2 : Nat) (w : World) (hb1 : Kd.C k78 w B1 r2.length r2) (hb2 : Kd.C (Kd.int .i64) w B2 r3.length r3) (he1 : Kd.C k78 w E1 r2.length r2) (he2 : Kd.C (Kd.int .i64) w E2 r3.length r3) (h2 : r2.length ≤ 100) (h3 : r3.length ≤ 100) :
    Calls Tryd.prog 11 #[.agg #[.int .i64 r1, .slice B1 r2.length d1, .slice B2 r3.length d2], .agg #[.int .i64 r1, .slice E1 r2.length f1, .slice E2 r3.length f2]] w fun e w' => e = .returned (.bool true) ∧ Below w.heap.size w w' := by
 obtain ⟨W0, hW0⟩ : ∃ W0, (w.alloc (.cells #[.int .i64 r1, .slice B1 r2.length d1, .slice B2 r3.length d2] 26)).alloc (.cells #[.int .i64 r1, .slice E1 r2.length f1, .slice E2 r3.length f2] 26) = W0 := ⟨_, rfl⟩
 have ha : M.rec_ W0 w.heap.size 26 [.int .i64 r1, .slice B1 r2.length d1, .slice B2 r3.length d2] := by rw [← hW0]; exact M.rec_alloc (M.rec_new w 26 [.int .i64 r1, .slice B1 r2.length d1, .slice B2 r3.length d2]) _
 have hd : M.rec_ W0 (w.heap.size + 1) 26 [.int .i64 r1, .slice E1 r2.length f1, .slice E2 r3.length f2] := by
  have h := M.rec_new (w.alloc (.cells #[.int .i64 r1, .slice B1 r2.length d1, .slice B2 r3.length d2] 26)) 26 [.int .i64 r1, .slice E1 r2.length f1, .slice E2 r3.length f2]
  rw [show (w.alloc (.cells #[.int .i64 r1, .slice B1 r2.length d1, .slice B2 r3.length d2] 26)).heap.size = w.heap.size + 1 from by simp] at h
  rw [← hW0]
  exact h
 have HB0 := Aside0.mk (show Below w.heap.size w W0 from by rw [← hW0]; exact below_alloc (below_alloc (Below.refl _ _) _) _)
 have HA0 := Aside0.mk ha
 have HD0 := Aside0.mk hd
 have HW0 := Aside0.mk hW0
 have q0 := M.rec_cell ha 0 _ rfl
 have q1 := M.rec_cell ha 1 _ rfl
 have q2 := M.rec_cell ha 2 _ rfl
 have q3 := M.rec_cell hd 0 _ rfl
 have q4 := M.rec_cell hd 1 _ rfl
 have q5 := M.rec_cell hd 2 _ rfl
 have HP := Aside0.mk hb1
 have HQ := Aside0.mk hb2
 have HR := Aside0.mk he1
 have HS := Aside0.mk he2
 have n1 : (r1 != r1) = false := by simp
 have n2 : ((r2.length : Int) != (r2.length : Int)) = false := by simp
 have n3 : ((r3.length : Int) != (r3.length : Int)) = false := by simp
 clear ha hd hW0 hb1 hb2 he1 he2
 go_enter Tryd.func11, Tryd.ntmps11
 go_upto_region 1 with (fail)
 rw [HW0.out]
 go_wp2
 go_loopg [5] (r2.length) (fun kq v5 wr => ∃ k : Nat, v5 = .int .i64 (k : Int) ∧ k ≤ r2.length ∧ Aside0 (kq = r2.length - k) ∧ Aside0 (Below w.heap.size w wr) ∧ Aside0 (M.rec_ wr w.heap.size 26 [.int .i64 r1, .slice B1 r2.length d1, .slice B2 r3.length d2]) ∧ Aside0 (M.rec_ wr (w.heap.size + 1) 26 [.int .i64 r1, .slice E1 r2.length f1, .slice E2 r3.length f2]))
 case atStart => exact ⟨0, rfl, Nat.zero_le _, ⟨rfl⟩, HB0, HA0, HD0⟩
 case round =>
  clear HB0 HA0 HD0 q0 q1 q2 q3 q4 q5
  obtain ⟨k, rfl, hk, hkq, HB, HA, HD⟩ := hrel
  have q1 := M.rec_cell HA.out 1 _ rfl
  by_cases hlt : k < r2.length
  ·obtain ⟨x, hx⟩ : ∃ x, rd_T78 r2 (k : Int) = x := ⟨_, rfl⟩
   obtain ⟨ad, rfl, a0, a1⟩ := at_T78 (Kd.C_below HP.out HB.out) (k : Int) (by omega) (by omega)
   obtain ⟨bd, rfl, b0, b1⟩ := at_T78 (Kd.C_below HR.out HB.out) (k : Int) (by omega) (by omega)
   rw [hx, Int.toNat_natCast] at a0 a1 b0 b1
   have q4 := M.rec_cell HD.out 1 _ rfl
   have p1 : (k : Int) < (r2.length : Int) := by omega
   have p2 : (0 : Int) ≤ (k : Int) := by omega
   have p3 := decide_eq_true p1
   have s0 : (x.f0.toList == x.f0.toList) = true := by simp
   have s1 : (x.f1.toList == x.f1.toList) = true := by simp
   clear hx
   go_upto_region 6 with (fail)
   have HBD := Aside0.mk (show Below w.heap.size w wr.drew from ⟨HB.out.os, HB.out.tape, HB.out.output, HB.out.size, HB.out.block⟩)
   go_region_held3 (fun w' => w'.cell? ⟨w.heap.size, 1, none⟩ = some (.slice (some ad) r2.length d1) ∧ w'.cell? ⟨w.heap.size + 1, 1, none⟩ = some (.slice (some bd) r2.length f1) ∧ w'.cell? (ad.add (k * 2)) = some (.string x.f0) ∧ w'.cell? ⟨(ad.add (k * 2)).block, (ad.add (k * 2)).off + 1, none⟩ = some (.string x.f1) ∧ w'.cell? (bd.add (k * 2)) = some (.string x.f0) ∧ w'.cell? ⟨(bd.add (k * 2)).block, (bd.add (k * 2)).off + 1, none⟩ = some (.string x.f1)) ((exact ⟨q1, q4, a0, a1, b0, b1⟩)) (fail)
   all_goals
    go_wp2
    go_roundg (r2.length - (k + 1))
    case measure => have := hkq.out; omega
    case rel => exact ⟨k + 1, by go_num, by omega, ⟨rfl⟩, HBD, ⟨M.rec_drew HA.out⟩, ⟨M.rec_drew HD.out⟩⟩
  ·obtain rfl : k = r2.length := by omega
   have p3 : decide ((r2.length : Int) < (r2.length : Int)) = false := decide_eq_false (by omega)
   clear hlt hk
   go_wp2
   go_loopg [6] (r3.length) (fun kq v6 w4 => ∃ j : Nat, v6 = .int .i64 (j : Int) ∧ j ≤ r3.length ∧ Aside0 (kq = r3.length - j) ∧ Aside0 (Below w.heap.size w w4) ∧ Aside0 (M.rec_ w4 w.heap.size 26 [.int .i64 r1, .slice B1 r2.length d1, .slice B2 r3.length d2]) ∧ Aside0 (M.rec_ w4 (w.heap.size + 1) 26 [.int .i64 r1, .slice E1 r2.length f1, .slice E2 r3.length f2]))
   case atStart => exact ⟨0, rfl, Nat.zero_le _, ⟨rfl⟩, HB, HA, HD⟩
   case round =>
    clear HB HA HD q1
    obtain ⟨j, rfl, hj, hjq, HB, HA, HD⟩ := hrel
    have q2 := M.rec_cell HA.out 2 _ rfl
    by_cases hlt : j < r3.length
    ·obtain ⟨x, hx⟩ : ∃ x, rd r3 (j : Int) = x := ⟨_, rfl⟩
     obtain ⟨ad, rfl, a0⟩ := Kd.at_int (Kd.C_below HQ.out HB.out) (j : Int) (by omega) (by omega)
     obtain ⟨bd, rfl, b0⟩ := Kd.at_int (Kd.C_below HS.out HB.out) (j : Int) (by omega) (by omega)
     rw [hx, Int.toNat_natCast] at a0 b0
     have q5 := M.rec_cell HD.out 2 _ rfl
     have p1 : (j : Int) < (r3.length : Int) := by omega
     have p2 : (0 : Int) ≤ (j : Int) := by omega
     have p3 := decide_eq_true p1
     have s0 : (x != x) = false := by simp
     clear hx
     go_upto_region 11 with (fail)
     have HBD := Aside0.mk (show Below w.heap.size w wr.drew from ⟨HB.out.os, HB.out.tape, HB.out.output, HB.out.size, HB.out.block⟩)
     go_region_held3 (fun w' => w'.cell? ⟨w.heap.size, 2, none⟩ = some (.slice (some ad) r3.length d2) ∧ w'.cell? ⟨w.heap.size + 1, 2, none⟩ = some (.slice (some bd) r3.length f2) ∧ w'.cell? (ad.add j) = some (.int .i64 x) ∧ w'.cell? (bd.add j) = some (.int .i64 x)) ((exact ⟨q2, q5, a0, b0⟩)) (fail)
     all_goals
      go_wp2
      go_roundg (r3.length - (j + 1))
      case measure => have := hjq.out; omega
      case rel => exact ⟨j + 1, by go_num, by omega, ⟨rfl⟩, HBD, ⟨M.rec_drew HA.out⟩, ⟨M.rec_drew HD.out⟩⟩
    ·obtain rfl : j = r3.length := by omega
     have p3 : decide ((r3.length : Int) < (r3.length : Int)) = false := decide_eq_false (by omega)
     clear hlt hj
     go_wp2
     go_ret
     exact ⟨rfl, HB.out⟩
def pleachlaw20_TreeChildren.f (l0 : List ByteArray) (a1_0 : Int) (l1_1 : List S78) (l1_2 : List Int) (a2 : Int) : Option Bool := if (∀ e ∈ l1_1, e.f1.size ≤ 9223372036854775807) ∧ l1_1.length ≤ 9223372036854775807 then some true else none
theorem pleachlaw20_TreeChildren.mem_ : ∀ (l : List ByteArray) (s sr : M.SS) (ok : Bool), pleachlaw20_of.go l s = (sr, ok) → ∀ x ∈ sr.ts, x ∈ s.ts ∨ x ∈ l
  | [], s, sr, ok, h, x, hx => by
    injection h with h1 h2
    subst h1
    exact .inl hx
  | t :: l, s, sr, ok, h, x, hx => by
    rw [pleachlaw20_of.go] at h
    have hp := M.SS.put_mem s t
    split at h
    · injection h with h1 h2
      subst h1
      exact (hp x hx).imp id (fun e => by rw [e]; exact List.mem_cons_self)
    · rcases pleachlaw20_TreeChildren.mem_ l _ sr ok h x hx with q | q
      · exact (hp x q).imp id (fun e => by rw [e]; exact List.mem_cons_self)
      · exact .inr (List.mem_cons_of_mem _ q)
theorem pleachlaw20_TreeChildren.less0 {x : ByteArray} (h : 0 < x.size) : Op.bytesLess (⟨#[]⟩ : ByteArray).toList x.toList = true := by
 rw [M.toList_bs, M.toList_bs]
 show Op.bytesLess [] (M.bs x) = true
 cases hq : M.bs x with
 | nil => have := M.bs_length x; rw [hq] at this; simp at this; omega
 | cons a l => rfl
theorem pleachlaw20_TreeChildren.cnt_ : ∀ (l : List ByteArray) (s sr : M.SS) (ok : Bool), pleachlaw20_of.go l s = (sr, ok) → sr.ts.length ≤ s.ts.length + l.length
  | [], s, sr, ok, h => by
    injection h with h1 h2
    subst h1
    exact Nat.le_add_right _ _
  | t :: l, s, sr, ok, h => by
    rw [pleachlaw20_of.go] at h
    have hp := M.SS.put_len s t
    rw [List.length_cons]
    split at h
    · injection h with h1 h2
      subst h1
      omega
    · have := pleachlaw20_TreeChildren.cnt_ l _ sr ok h
      omega
theorem pleachlaw20_TreeChildren.len_ {s : M.SS} {lv i : Int} {es : List S78} {cs : List Int} {r1 : Int} {r2 : List S78} {r3 : List Int} {er : Int} (h : tree_Child.of s lv es cs i = (r1, r2, r3, er)) : r2.length ≤ 8 ∧ r3.length ≤ 8 := by
 have h0 : ∀ er' : Int, ((0 : Int), ([] : List S78), ([] : List Int), er') = (r1, r2, r3, er) → r2.length ≤ 8 ∧ r3.length ≤ 8 := by
  intro er' e
  injection e with _ e
  injection e with e1 e
  injection e with e2 _
  rw [← e1, ← e2]
  decide
 unfold tree_Child.of at h
 split at h
 ·exact h0 _ h
 ·split at h
  ·rename_i hz
   obtain ⟨⟨q1, q2, q3, q4⟩, hq⟩ : ∃ y, tree_Load.at_ s (rd_T78 es i).f1 = y := ⟨_, rfl⟩
   rw [hq] at h hz
   simp only at hz
   have hl := tree_Child.ok_ (hz ▸ hq)
   generalize (if i = 0 then (⟨#[]⟩ : ByteArray) else (rd_T78 es (i - 1)).f0) = lo at h
   unfold tree_Child.fin at h
   split at h
   ·injection h with _ e
    injection e with e1 e
    injection e with e2 _
    rw [← e1, ← e2]
    exact hl.2
   ·exact h0 _ h
  ·exact h0 _ h
theorem pleachlaw20_TreeChildren.load_ (s : M.SS) (nm : ByteArray) (hl : s.ts.length ≤ 1000000000000) (hz : ∀ t ∈ s.ts, t.size ≤ 9223372036854775806) : pleachref20_Load.f s.ts (s.ts.map M.shaSum) s.a s.b nm = some (if (tree_Load.at_ s nm).2.2.2 = 0 then ((tree_Load.at_ s nm).1, (tree_Load.at_ s nm).2.1, (tree_Load.at_ s nm).2.2.1, true) else (0, [], [], false)) := by
 have ht : (s.get nm).1.size ≤ 9223372036854775806 := by
  unfold M.SS.get
  cases hi : M.idx (s.ts.map M.shaSum) nm.data.toList with
  | none => exact (show (0 : Nat) ≤ 9223372036854775806 by decide)
  | some i => exact hz _ (M.getD_mem (by have := (M.idx_lt hi).1; simpa using this))
 unfold pleachref20_Load.f pleachref16_Get.f
 rw [if_pos ⟨rfl, hl⟩, Option.bind_some]
 show (if (s.get nm).2 = true then ((pleachref19_Take.f (s.get nm).1).bind fun bt => some (bt.1, bt.2.1, bt.2.2.1, bt.2.2.2)) else some (0, [], [], false)) = _
 unfold tree_Load.at_
 by_cases h : (s.get nm).2 = true
 ·simp only [if_pos h]
  unfold pleachref19_Take.f
  rw [if_pos ht, Option.bind_some]
  unfold pleachref19_Take.of tree_Load.of
  by_cases h2 : (chunk_Take.res (s.get nm).1).2.2.2 = 0
  ·simp only [if_pos h2, if_true]
  ·simp only [if_neg h2, if_neg (show ¬ (16 : Int) = 0 by decide)]
 ·simp only [if_neg h, if_neg (show ¬ (16 : Int) = 0 by decide)]
theorem pleachlaw20_TreeChildren.total_loop (lv : Int) (es : List S78) (cs : List Int) (hc : cs.length ≤ 20) (d : Nat) : ∀ (k i : Nat) (a : Int), i + d = cs.length → d < k → pleachref19_Total.l0 k a (i : Int) lv es cs = some (tree_Child.tl a (cs.drop i)) := by
 induction d with
 | zero =>
  intro k i a hi hk
  obtain ⟨k, rfl⟩ : ∃ m, k = m + 1 := ⟨k - 1, by omega⟩
  rw [pleachref19_Total.l0, if_neg (by omega), List.drop_of_length_le (by omega)]; rfl
 | succ d ih =>
  intro k i a hi hk
  obtain ⟨k, rfl⟩ : ∃ m, k = m + 1 := ⟨k - 1, by omega⟩
  have hlt : i < cs.length := by omega
  have hrd : rd cs (i : Int) = cs[i] := by simp [rd, List.getD, hlt]
  rw [pleachref19_Total.l0, if_pos (by omega), if_pos (by omega), hrd, M.wrap64_id (i := (i : Int) + 1) (by omega) (by omega), show (i : Int) + 1 = ((i + 1 : Nat) : Int) from by omega, ih k (i + 1) _ (by omega) (by omega), List.drop_eq_getElem_cons hlt, tree_Child.tl]
theorem pleachlaw20_TreeChildren.total_ev (lv : Int) (es : List S78) (cs : List Int) (hc : cs.length ≤ 20) (k : Nat) (hk : 30 ≤ k) : pleachref19_Total.f k lv es cs = some (tree_Child.total lv es cs) := by
 unfold pleachref19_Total.f tree_Child.total
 by_cases h : lv = 0
 ·rw [if_pos h, if_pos h]
 ·rw [if_neg h, if_neg h]
  exact pleachlaw20_TreeChildren.total_loop lv es cs hc cs.length k 0 0 (by omega) (by omega)
theorem pleachlaw20_TreeChildren.refc (s : M.SS) (lv : Int) (es : List S78) (cs : List Int) (i : Int) (hl : s.ts.length ≤ 1000000000000) (hz : ∀ t ∈ s.ts, t.size ≤ 9223372036854775806) (he20 : es.length ≤ 20) (hc20 : cs.length ≤ 20) : pleachref20_Child.f 40 s.ts (s.ts.map M.shaSum) s.a s.b lv es cs i = some (tree_Child.of s lv es cs i) := by
 unfold pleachref20_Child.f tree_Child.of
 by_cases x1 : lv < 1
 ·rw [if_pos x1, if_pos (.inl x1), pleachref20_Child.j0, if_pos rfl]
 by_cases x2 : i < 0
 ·rw [if_neg x1, if_pos x2, if_pos (.inr (.inl x2)), pleachref20_Child.j0, if_pos rfl]
 by_cases x3 : (es.length : Int) ≤ i
 ·rw [if_neg x1, if_neg x2, if_pos x3, if_pos (.inr (.inr (.inl x3))), pleachref20_Child.j0, if_pos rfl]
 by_cases x4 : (cs.length : Int) ≤ i
 ·rw [if_neg x1, if_neg x2, if_neg x3, if_pos (.inr (.inr (.inr x4))), pleachref20_Child.j0, decide_eq_true x4, if_pos rfl]
 rw [if_neg x1, if_neg x2, if_neg x3, if_neg (fun h => h.elim x1 fun h => h.elim x2 fun h => h.elim x3 x4), pleachref20_Child.j0, decide_eq_false x4, if_neg (by simp), if_pos (by omega), if_pos (by omega), pleachlaw20_TreeChildren.load_ s _ hl hz, Option.bind_some]
 obtain ⟨⟨r1, r2, r3, er⟩, hq⟩ : ∃ y, tree_Load.at_ s (rd_T78 es i).f1 = y := ⟨_, rfl⟩
 rw [hq]
 simp only
 by_cases he : er = 0
 ·rw [if_pos he, if_pos he]
  have hok := tree_Child.ok_ (he ▸ hq)
  simp only [if_true]
  unfold tree_Child.fin
  by_cases h1 : r1 = wrap64 (lv - 1)
  ·rw [if_pos h1, pleachref20_Child.j1]
   by_cases h2 : r2 = []
   ·rw [if_pos (by rw [h2]; rfl), if_neg (fun h => h.2.1 h2)]
   ·have hp : 0 < r2.length := List.length_pos_iff.2 h2
    have hw : wrap64 ((r2.length : Int) - 1) = (r2.length : Int) - 1 := M.wrap64_id (by omega) (by omega)
    have hls : tree_Child.last r2 = (rd_T78 r2 ((r2.length : Int) - 1)).f0 := by unfold tree_Child.last; rw [if_neg (by omega)]
    rw [if_neg (by simp; omega), hw, if_pos (by omega), if_pos (by omega), if_pos (by omega), if_pos (by omega), ← hls]
    by_cases h3 : tree_Child.last r2 = (rd_T78 es i).f0
    ·rw [if_pos (by rw [h3]), pleachlaw20_TreeChildren.total_ev r1 r2 r3 (by omega) 38 (by decide), Option.bind_some, if_pos (by omega)]
     by_cases h4 : tree_Child.total r1 r2 r3 = rd cs i
     ·rw [if_pos h4]
      by_cases h5 : i > 0
      ·have hw2 : wrap64 (i - 1) = i - 1 := M.wrap64_id (by omega) (by omega)
       rw [if_pos h5, if_pos (by omega), hw2, if_pos (by omega), if_pos (by omega), pleachref20_Child.j2, if_neg (show ¬ i = 0 by omega)]
       by_cases h6 : Op.bytesLess (rd_T78 es (i - 1)).f0.toList (rd_T78 r2 0).f0.toList = true
       ·rw [if_neg (by rw [h6]; simp), if_pos ⟨h1, h2, h3, h4, h6⟩]
       ·rw [if_pos (by simp [h6]), if_neg (fun h => h6 h.2.2.2.2)]
      ·have h0 : i = 0 := by omega
       have hne : Op.bytesLess (⟨#[]⟩ : ByteArray).toList (rd_T78 r2 0).f0.toList = true := by
        obtain ⟨_, _, _, _, _, hk⟩ := chunk_fits.wrong_ok hok.1
        have hrd : rd_T78 r2 0 = r2[0] := by simp [rd_T78, List.getD, hp]
        have h7 := hk r2[0] (List.getElem_mem hp)
        unfold chunk_fits.ok at h7
        have h7 := (of_decide_eq_true h7).1
        rw [hrd]
        exact pleachlaw20_TreeChildren.less0 h7
       rw [if_neg h5, pleachref20_Child.j2, if_neg (by simp), if_pos h0, if_pos ⟨h1, h2, h3, h4, hne⟩]
     ·rw [if_neg h4, pleachref20_Child.j2, if_pos rfl, if_neg (fun h => h4 h.2.2.2.1)]
    ·rw [if_neg (fun z => h3 (M.data_inj (by rw [ByteArray.toList_eq, ByteArray.toList_eq] at z; exact z))), pleachref20_Child.j2, if_pos rfl, if_neg (fun h => h3 h.2.2.1)]
  ·rw [if_neg h1, pleachref20_Child.j1, if_pos rfl, if_neg (fun h => h1 h.1)]
 ·rw [if_neg he, if_neg he]
  simp only
  rw [if_neg (by simp), pleachref20_Child.j1, if_pos rfl]
theorem pleachlaw20_TreeChildren.sm (r1 : Int) (r2 : List S78) (r3 : List Int) (h2 : r2.length ≤ 8) (h3 : r3.length ≤ 8) (B1 B2 E1 E2 : Option Addr) (d1 d2 f1 f2 : Nat) (w : World) (b1 b2 : Nat) (hb1 : Kd.R k78 78 w b1 (fun _ => True) (.slice B1 r2.length d1) r2) (hb2 : Kd.R (Kd.int .i64) 3 w b1 (fun _ => True) (.slice B2 r3.length d2) r3) (he1 : Kd.R k78 78 w b2 (fun _ => True) (.slice E1 r2.length f1) r2) (he2 : Kd.R (Kd.int .i64) 3 w b2 (fun _ => True) (.slice E2 r3.length f2) r3) :
    Calls Tryd.prog 11 #[.agg #[.int .i64 r1, .slice B1 r2.length d1, .slice B2 r3.length d2], .agg #[.int .i64 r1, .slice E1 r2.length f1, .slice E2 r3.length f2]] w fun e w' => e = .returned (.bool true) ∧ Below w.heap.size w w' :=
  pleachref19_Same.eq r1 r2 r3 B1 B2 E1 E2 d1 d2 f1 f2 w (Kd.R_reads' hb1).2.2 (Kd.R_reads' hb2).2.2 (Kd.R_reads' he1).2.2 (Kd.R_reads' he2).2.2 (by omega) (by omega)
set_option maxHeartbeats 8000000 in
set_option maxRecDepth 100000 in
theorem pleachlaw20_TreeChildren.out (AL : Option Addr) (cl : Nat) (l : List ByteArray) (lv : Int) (A1 : Option Addr) (c1 : Nat) (es : List S78) (A2 : Option Addr) (c2 : Nat) (cs : List Int) (i : Int) (w : World) (hr : Kd.C Kd.string w AL l.length l) (hcl : l.length ≤ cl) (hT : M.stab w) (h : 30 < l.length ∨ 6000 < M.bytesN 0 l ∨ 20 < es.length ∨ 20 < cs.length) :
    Calls Tryd.prog 3 #[.slice AL l.length cl, .agg #[.int .i64 lv, .slice A1 es.length c1, .slice A2 cs.length c2], .int .i64 i] w fun e w' => e = .returned (.bool true) ∧ Below w.heap.size w w' := by
 obtain ⟨W0, hW0⟩ : ∃ W0, w.alloc (.cells #[.int .i64 lv, .slice A1 es.length c1, .slice A2 cs.length c2] 26) = W0 := ⟨_, rfl⟩
 have hB0 : Below w.heap.size w W0 := by rw [← hW0]; exact below_alloc (Below.refl _ _) _
 have HC0 : M.rec_ W0 w.heap.size 26 [.int .i64 lv, .slice A1 es.length c1, .slice A2 cs.length c2] := by rw [← hW0]; exact M.rec_new w 26 [.int .i64 lv, .slice A1 es.length c1, .slice A2 cs.length c2]
 have HX := Aside0.mk HC0
 have HT0 := Aside0.mk (M.stab_below hT hB0 (M.stab_lt hT))
 have HR0 := Aside0.mk (Kd.C_below hr hB0)
 have HF : l.length ≤ 30 → Aside0 (pleachplain_Bytes.f l = some ((M.bytesN 0 l : Nat) : Int)) := fun h => ⟨if_pos (by omega)⟩
 generalize M.bytesN 0 l = n at h HF
 have key : (decide ((30 : Int) < (l.length : Int)) = true) ∨ (l.length ≤ 30 ∧ decide ((30 : Int) < (l.length : Int)) = false ∧ decide ((6000 : Int) < (n : Int)) = true) ∨ (l.length ≤ 30 ∧ decide ((30 : Int) < (l.length : Int)) = false ∧ decide ((6000 : Int) < (n : Int)) = false ∧ decide ((20 : Int) < (es.length : Int)) = true) ∨ (l.length ≤ 30 ∧ decide ((30 : Int) < (l.length : Int)) = false ∧ decide ((6000 : Int) < (n : Int)) = false ∧ decide ((20 : Int) < (es.length : Int)) = false ∧ decide ((20 : Int) < (cs.length : Int)) = true) := by
  simp only [decide_eq_true_eq, decide_eq_false_iff_not]
  omega
 have HB0 := Aside0.mk hB0
 have HW0 := Aside0.mk hW0
 have q1 := M.rec_cell HC0 1 _ rfl
 have q2 := M.rec_cell HC0 2 _ rfl
 clear h hr hT hW0 HC0 hB0
 rcases key with d1 | ⟨hle, d1, d2⟩ | ⟨hle, d1, d2, d3⟩ | ⟨hle, d1, d2, d3, d4⟩
 all_goals
  try replace HF := HF hle
  go_enter Tryd.func3, Tryd.ntmps3
  go_upto_region 1 with (fail)
  rw [HW0.out]
  go_wp2_with (first | (go_at_call 6; (with_reducible refine (pleachplain_Bytes.calls AL cl l (n : Int) _ HR0.out hcl HF.out).mono ?_); rintro e w1 ⟨rfl, hb1⟩; have HB1 := Aside0.mk (below_step HB0.out hb1); have HT1 := Aside0.mk (M.stab_below HT0.out hb1 (M.stab_lt HT0.out)); have r1 := M.rec_cell (M.rec_below HX.out hb1) 1 _ rfl; have r2 := M.rec_cell (M.rec_below HX.out hb1) 2 _ rfl; clear hb1) | (go_at_call 7; (with_reducible refine (pleachlaw20_awake.walk _ ?h).mono ?_); (case h => first | exact HT1.out | exact HT0.out); rintro e w2 ⟨rfl, hb2⟩))
  go_ret
  first
   | exact ⟨rfl, below_step HB1.out hb2⟩
   | exact ⟨rfl, below_step HB0.out hb2⟩
theorem pleachlaw20_TreeChildren.rc (sr : M.SS) (lv : Int) (A1 : Option Addr) (c1 : Nat) (es : List S78) (A2 : Option Addr) (c2 : Nat) (cs : List Int) (i : Int) (w : World) (X0 X1 : Option Addr) (x0 x1 : Nat) (hr0 : Kd.C Kd.string w X0 sr.ts.length sr.ts) (hx0 : sr.ts.length ≤ x0) (hr1 : Kd.C Kd.string w X1 (sr.ts.map M.shaSum).length (sr.ts.map M.shaSum)) (hx1 : sr.ts.length ≤ x1) (h1 : Kd.C k78 w A1 es.length es) (hc1 : es.length ≤ c1) (h2 : Kd.C (Kd.int .i64) w A2 cs.length cs) (hc2 : cs.length ≤ c2) (hl : sr.ts.length ≤ 1000000000000) (hz : ∀ t ∈ sr.ts, t.size ≤ 1000000000000) (he20 : es.length ≤ 20) (hc20 : cs.length ≤ 20) (r1 : Int) (r2 : List S78) (r3 : List Int) (er : Int) (hof : tree_Child.of sr lv es cs i = (r1, r2, r3, er)) :
    Calls Tryd.prog 10 #[.agg #[.slice X0 sr.ts.length x0, .slice X1 sr.ts.length x1, .string sr.a, .string sr.b], .agg #[.int .i64 lv, .slice A1 es.length c1, .slice A2 cs.length c2], .int .i64 i] w fun e w' => ∃ E1 f1 E2 f2, e = .returned (.tuple #[.agg #[.int .i64 r1, .slice E1 r2.length f1, .slice E2 r3.length f2], .int .i64 er]) ∧ Kd.R k78 78 w' w.heap.size (fun _ => True) (.slice E1 r2.length f1) r2 ∧ Kd.R (Kd.int .i64) 3 w' w.heap.size (fun _ => True) (.slice E2 r3.length f2) r3 ∧ Below w.heap.size w w' := by
 have h := pleachref20_Child.calls 40 X0 x0 sr.ts X1 x1 (sr.ts.map M.shaSum) sr.a sr.b lv A1 c1 es A2 c2 cs i r1 r2 r3 er w hr0 hx0 hr1 (by rw [List.length_map]; exact hx1) h1 hc1 h2 hc2 (by rw [pleachlaw20_TreeChildren.refc sr lv es cs i hl (fun t ht => Nat.le_trans (hz t ht) (by decide)) he20 hc20, hof])
 rw [List.length_map] at h
 refine h.mono ?_
 rintro e w' ⟨v1, v2, rfl, ha, hb, hc⟩
 obtain ⟨E1, f1, rfl⟩ := Kd.R_slice ha
 obtain ⟨E2, f2, rfl⟩ := Kd.R_slice hb
 exact ⟨E1, f1, E2, f2, rfl, ha, hb, hc⟩
set_option maxHeartbeats 8000000 in
set_option maxRecDepth 100000 in
theorem pleachlaw20_TreeChildren.in_ (AL : Option Addr) (cl : Nat) (l : List ByteArray) (lv : Int) (A1 : Option Addr) (c1 : Nat) (es : List S78) (A2 : Option Addr) (c2 : Nat) (cs : List Int) (i : Int) (w : World) (hr : Kd.C Kd.string w AL l.length l) (hcl : l.length ≤ cl) (h1 : Kd.C k78 w A1 es.length es) (hc1 : es.length ≤ c1) (h2 : Kd.C (Kd.int .i64) w A2 cs.length cs) (hc2 : cs.length ≤ c2) (hT : M.stab w) (hl30 : l.length ≤ 30) (hby : M.bytesN 0 l ≤ 6000) (he20 : es.length ≤ 20) (hc20 : cs.length ≤ 20) (hes : ∀ e ∈ es, e.f1.size ≤ 9223372036854775807) :
    Calls Tryd.prog 3 #[.slice AL l.length cl, .agg #[.int .i64 lv, .slice A1 es.length c1, .slice A2 cs.length c2], .int .i64 i] w fun e w' => e = .returned (.bool true) ∧ Below w.heap.size w w' := by
 obtain ⟨W0, hW0⟩ : ∃ W0, w.alloc (.cells #[.int .i64 lv, .slice A1 es.length c1, .slice A2 cs.length c2] 26) = W0 := ⟨_, rfl⟩
 have hB0 : Below w.heap.size w W0 := by rw [← hW0]; exact below_alloc (Below.refl _ _) _
 have HC0 : M.rec_ W0 w.heap.size 26 [.int .i64 lv, .slice A1 es.length c1, .slice A2 cs.length c2] := by rw [← hW0]; exact M.rec_new w 26 [.int .i64 lv, .slice A1 es.length c1, .slice A2 cs.length c2]
 obtain ⟨⟨sr, okr⟩, hgo⟩ : ∃ y, pleachlaw20_of.go l M.SS.none_ = y := ⟨_, rfl⟩
 obtain ⟨⟨r1, r2, r3, er⟩, hof⟩ : ∃ y, tree_Child.of sr lv es cs i = y := ⟨_, rfl⟩
 have HZ := Aside0.mk (fun (t : ByteArray) (ht : t ∈ l) => Nat.le_trans (Nat.le_trans (M.bytesN_each l 0 (by omega) t ht) hby) (show 6000 ≤ 1000000 by decide))
 have HTS := Aside0.mk (fun (t : ByteArray) (ht : t ∈ sr.ts) => (pleachlaw20_TreeChildren.mem_ l _ sr okr hgo t ht).elim (fun q => absurd q List.not_mem_nil) (fun q => Nat.le_trans (HZ.out t q) (show 1000000 ≤ 1000000000000 by decide)))
 have hsl : sr.ts.length ≤ 1000000000000 := by have := pleachlaw20_TreeChildren.cnt_ l _ sr okr hgo; have h0 : M.SS.none_.ts.length = 0 := rfl; omega
 have hr8 := pleachlaw20_TreeChildren.len_ hof
 have HX := Aside0.mk HC0
 have HT0 := Aside0.mk (M.stab_below hT hB0 (M.stab_lt hT))
 have HR0 := Aside0.mk (Kd.C_below hr hB0)
 have HE0 := Aside0.mk (Kd.C_below h1 hB0)
 have HI0 := Aside0.mk (Kd.C_below h2 hB0)
 have HES := Aside0.mk hes
 have HGO := Aside0.mk hgo
 have HOF := Aside0.mk hof
 have HF : Aside0 (pleachplain_Bytes.f l = some ((M.bytesN 0 l : Nat) : Int)) := ⟨if_pos (by omega)⟩
 generalize M.bytesN 0 l = n at hby HF
 have hl1000 : l.length ≤ 1000 := by omega
 have h63 : es.length ≤ 9223372036854775807 := by omega
 have e1 : decide ((30 : Int) < (l.length : Int)) = false := decide_eq_false (by omega)
 have e2 : decide ((6000 : Int) < (n : Int)) = false := decide_eq_false (by omega)
 have e3 : decide ((20 : Int) < (es.length : Int)) = false := decide_eq_false (by omega)
 have e4 : decide ((20 : Int) < (cs.length : Int)) = false := decide_eq_false (by omega)
 have e5 : (er == er) = true := by simp
 have HB0 := Aside0.mk hB0
 have HW0 := Aside0.mk hW0
 have q1 := M.rec_cell HC0 1 _ rfl
 have q2 := M.rec_cell HC0 2 _ rfl
 clear hr h1 h2 hT hW0 HC0 hB0 hes hgo hof
 go_enter Tryd.func3, Tryd.ntmps3
 go_upto_region 1 with (fail)
 rw [HW0.out]
 go_upto_region 4 with (first | (go_at_call 6; (with_reducible refine (pleachplain_Bytes.calls AL cl l (n : Int) _ HR0.out hcl HF.out).mono ?_); rintro e w1 ⟨rfl, hb⟩; have HB1 := Aside0.mk (below_step HB0.out hb); have HT1 := Aside0.mk (M.stab_below HT0.out hb (M.stab_lt HT0.out)); have HC1 := Aside0.mk (M.rec_below HX.out hb); have HR1 := Aside0.mk (Kd.C_below HR0.out hb); have HE1 := Aside0.mk (Kd.C_below HE0.out hb); have HI1 := Aside0.mk (Kd.C_below HI0.out hb); have q3 := M.rec_cell HC1.out 1 _ rfl; have q4 := M.rec_cell HC1.out 2 _ rfl; clear hb) | (go_at_call 8; (with_reducible refine (pleachlaw20_of.any AL cl l _ HR1.out hcl hl1000 HZ.out HT1.out sr okr HGO.out).mono ?_); rintro e w2 ⟨g, F, X0, X1, x0, x1, rfl, h2_, hb⟩; have H2 := Aside0.mk (h2_); have HB2 := Aside0.mk (below_step HB1.out hb); have HT2 := Aside0.mk (M.stab_below HT1.out hb (M.stab_lt HT1.out)); have HC2 := Aside0.mk (M.rec_below HC1.out hb); have HE2 := Aside0.mk (Kd.C_below HE1.out hb); have HI2 := Aside0.mk (Kd.C_below HI1.out hb); clear h2_ hb) | ((with_reducible refine gate_store (t := 31) (p := 8) (v := .tmp 39) rfl ?_); refine M.wp_rec_store rfl 31 _ _ rfl w2.heap.size 31 [.slice none 0 0, .slice none 0 0, .string ⟨#[]⟩, .string ⟨#[]⟩] [.slice X0 sr.ts.length x0, .slice X1 sr.ts.length x1, .string sr.a, .string sr.b] rfl rfl (M.rec_new w2 31 [.slice none 0 0, .slice none 0 0, .string ⟨#[]⟩, .string ⟨#[]⟩]) rfl pleachref16_Put.size_ rfl ?_; intro w3 hA hF hB hz; have hy := hB w2.heap.size w2 (Nat.le_refl _) (below_alloc (Below.refl _ _) _); have HS3 := Aside0.mk (hA); have H3 := Aside0.mk (H2.out.below hy); have HB3 := Aside0.mk (below_step HB2.out hy); have HT3 := Aside0.mk (M.stab_below HT2.out hy (M.stab_lt HT2.out)); have HC3 := Aside0.mk (M.rec_below HC2.out hy); have HE3 := Aside0.mk (Kd.C_below HE2.out hy); have HI3 := Aside0.mk (Kd.C_below HI2.out hy); clear hA hF hB hz hy))
 cases okr
 ·go_wp2_with ((go_at_call 7; (with_reducible refine (pleachlaw20_awake.walk _ HT3.out).mono ?_); rintro e w9 ⟨rfl, hb⟩; have HB9 := Aside0.mk (below_step HB3.out hb); clear hb))
  go_ret
  exact ⟨rfl, HB9.out⟩
 ·go_wp2_with (first | ((with_reducible refine gate_dst (N := 46) rfl ?_); ((refine gate_guard (by rfl) ?_; dsimp only)); refine M.wp_rec_load rfl 26 _ rfl (w.heap.size) 26 [.int .i64 lv, .slice A1 es.length c1, .slice A2 cs.length c2] rfl HC3.out _ Tryd.underlying26 rfl tree_Load.size_ ?_) | (go_at_call 9; (with_reducible refine (tree_Child.any w1.heap.size g F sr lv A1 c1 es A2 c2 cs i _ H3.out.sh HTS.out HE3.out HI3.out HES.out h63 r1 r2 r3 er HOF.out).mono ?_); rintro e w4 ⟨B1, d1, B2, d2, rfl, hx, hy, hb⟩; have HP4 := Aside0.mk (hx); have HQ4 := Aside0.mk (hy); have HS4 := Aside0.mk (M.rec_below HS3.out hb); have H4 := Aside0.mk (H3.out.below hb); have HB4 := Aside0.mk (below_step HB3.out hb); have HT4 := Aside0.mk (M.stab_below HT3.out hb (M.stab_lt HT3.out)); have HC4 := Aside0.mk (M.rec_below HC3.out hb); have HE4 := Aside0.mk (Kd.C_below HE3.out hb); have HI4 := Aside0.mk (Kd.C_below HI3.out hb); clear hx hy hb) | ((with_reducible refine gate_store (t := 26) (p := 10) (v := .tmp 49) rfl ?_); refine M.wp_rec_store rfl 26 _ _ rfl w4.heap.size 26 [.int .i64 0, .slice none 0 0, .slice none 0 0] [.int .i64 r1, .slice B1 r2.length d1, .slice B2 r3.length d2] rfl rfl (M.rec_new w4 26 [.int .i64 0, .slice none 0 0, .slice none 0 0]) rfl tree_Load.size_ rfl ?_; intro w5 hA hF hB hz; have hy := hB w4.heap.size w4 (Nat.le_refl _) (below_alloc (Below.refl _ _) _); have HD5 := Aside0.mk (hA); have HP5 := Aside0.mk (Kd.R_below HP4.out hy); have HQ5 := Aside0.mk (Kd.R_below HQ4.out hy); have HS5 := Aside0.mk (M.rec_below HS4.out hy); have H5 := Aside0.mk (H4.out.below hy); have HB5 := Aside0.mk (below_step HB4.out hy); have HT5 := Aside0.mk (M.stab_below HT4.out hy (M.stab_lt HT4.out)); have HC5 := Aside0.mk (M.rec_below HC4.out hy); have HE5 := Aside0.mk (Kd.C_below HE4.out hy); have HI5 := Aside0.mk (Kd.C_below HI4.out hy); clear hA hF hB hz hy) | ((with_reducible refine gate_dst (N := 52) rfl ?_); ((refine gate_guard (by rfl) ?_; dsimp only)); refine M.wp_rec_load rfl 31 _ rfl (w2.heap.size) 31 [.slice X0 sr.ts.length x0, .slice X1 sr.ts.length x1, .string sr.a, .string sr.b] rfl HS5.out _ Tryd.underlying31 rfl pleachref16_Put.size_ ?_) | ((with_reducible refine gate_dst (N := 53) rfl ?_); ((refine gate_guard (by rfl) ?_; dsimp only)); refine M.wp_rec_load rfl 26 _ rfl (w.heap.size) 26 [.int .i64 lv, .slice A1 es.length c1, .slice A2 cs.length c2] rfl HC5.out _ Tryd.underlying26 rfl tree_Load.size_ ?_) | (go_at_call 10; (with_reducible refine (pleachlaw20_TreeChildren.rc sr lv A1 c1 es A2 c2 cs i _ X0 X1 x0 x1 H5.out.r0 H5.out.h0 H5.out.r1 H5.out.h1 HE5.out hc1 HI5.out hc2 hsl HTS.out he20 hc20 r1 r2 r3 er HOF.out).mono ?_); rintro e w6 ⟨E1, f1, E2, f2, rfl, hx, hy, hb⟩; have HG6 := Aside0.mk (hx); have HH6 := Aside0.mk (hy); have HD6 := Aside0.mk (M.rec_below HD5.out hb); have HP6 := Aside0.mk (Kd.R_below HP5.out hb); have HQ6 := Aside0.mk (Kd.R_below HQ5.out hb); have HB6 := Aside0.mk (below_step HB5.out hb); have HT6 := Aside0.mk (M.stab_below HT5.out hb (M.stab_lt HT5.out)); clear hx hy hb) | ((with_reducible refine gate_store (t := 26) (p := 12) (v := .tmp 56) rfl ?_); refine M.wp_rec_store rfl 26 _ _ rfl w6.heap.size 26 [.int .i64 0, .slice none 0 0, .slice none 0 0] [.int .i64 r1, .slice E1 r2.length f1, .slice E2 r3.length f2] rfl rfl (M.rec_new w6 26 [.int .i64 0, .slice none 0 0, .slice none 0 0]) rfl tree_Load.size_ rfl ?_; intro w7 hA hF hB hz; have hy := hB w6.heap.size w6 (Nat.le_refl _) (below_alloc (Below.refl _ _) _); have HD7 := Aside0.mk (M.rec_below HD6.out hy); have HF7 := Aside0.mk (hA); have HP7 := Aside0.mk (Kd.R_below HP6.out hy); have HQ7 := Aside0.mk (Kd.R_below HQ6.out hy); have HG7 := Aside0.mk (Kd.R_below HG6.out hy); have HH7 := Aside0.mk (Kd.R_below HH6.out hy); have HB7 := Aside0.mk (below_step HB6.out hy); have HT7 := Aside0.mk (M.stab_below HT6.out hy (M.stab_lt HT6.out)); clear hA hF hB hz hy) | ((with_reducible refine gate_dst (N := 58) rfl ?_); ((refine gate_guard (by rfl) ?_; dsimp only)); refine M.wp_rec_load rfl 26 _ rfl (w4.heap.size) 26 [.int .i64 r1, .slice B1 r2.length d1, .slice B2 r3.length d2] rfl HD7.out _ Tryd.underlying26 rfl tree_Load.size_ ?_) | ((with_reducible refine gate_dst (N := 59) rfl ?_); ((refine gate_guard (by rfl) ?_; dsimp only)); refine M.wp_rec_load rfl 26 _ rfl (w6.heap.size) 26 [.int .i64 r1, .slice E1 r2.length f1, .slice E2 r3.length f2] rfl HF7.out _ Tryd.underlying26 rfl tree_Load.size_ ?_) | (go_at_call 11; (with_reducible refine (pleachlaw20_TreeChildren.sm r1 r2 r3 hr8.1 hr8.2 B1 B2 E1 E2 d1 d2 f1 f2 _ _ _ HP7.out HQ7.out HG7.out HH7.out).mono ?_); rintro e w8 ⟨rfl, hb⟩; have HB8 := Aside0.mk (below_step HB7.out hb); have HT8 := Aside0.mk (M.stab_below HT7.out hb (M.stab_lt HT7.out)); clear hb) | (go_at_call 7; (with_reducible refine (pleachlaw20_awake.walk _ HT8.out).mono ?_); rintro e w9 ⟨rfl, hb⟩; have HB9 := Aside0.mk (below_step HB8.out hb); clear hb))
  go_ret
  exact ⟨rfl, HB9.out⟩
theorem pleachlaw20_TreeChildren.calls (A0 : Option Addr) (c0 : Nat) (l0 : List ByteArray) (a1_0 : Int) (A1_1 : Option Addr) (c1_1 : Nat) (l1_1 : List S78) (A1_2 : Option Addr) (c1_2 : Nat) (l1_2 : List Int) (a2 : Int) (r : Bool) (w : World) (hr0 : Kd.C Kd.string w A0 l0.length l0) (hc0 : l0.length ≤ c0) (hr1_1 : Kd.C k78 w A1_1 l1_1.length l1_1) (hc1_1 : l1_1.length ≤ c1_1) (hr1_2 : Kd.C (Kd.int .i64) w A1_2 l1_2.length l1_2) (hc1_2 : l1_2.length ≤ c1_2) (hT : M.stab w) (h : pleachlaw20_TreeChildren.f l0 a1_0 l1_1 l1_2 a2 = some r) :
    Calls Tryd.prog 3 #[.slice A0 l0.length c0, .agg #[.int .i64 a1_0, .slice A1_1 l1_1.length c1_1, .slice A1_2 l1_2.length c1_2], .int .i64 a2] w fun e w' => e = .returned (.bool r) ∧ Below w.heap.size w w' := by
 unfold pleachlaw20_TreeChildren.f at h
 split at h
 case isFalse => cases h
 case isTrue hg =>
  obtain rfl := Option.some.inj h
  by_cases hf : l0.length ≤ 30 ∧ M.bytesN 0 l0 ≤ 6000 ∧ l1_1.length ≤ 20 ∧ l1_2.length ≤ 20
  ·exact pleachlaw20_TreeChildren.in_ A0 c0 l0 a1_0 A1_1 c1_1 l1_1 A1_2 c1_2 l1_2 a2 w hr0 hc0 hr1_1 hc1_1 hr1_2 hc1_2 hT hf.1 hf.2.1 hf.2.2.1 hf.2.2.2 hg.1
  ·exact pleachlaw20_TreeChildren.out A0 c0 l0 a1_0 A1_1 c1_1 l1_1 A1_2 c1_2 l1_2 a2 w hr0 hc0 hT (by omega)
def Good78 (x : S78) : Prop := (x.f0.size ≤ 9223372036854775807) ∧ (x.f1.size ≤ 9223372036854775807)
def pleachlaw20_TreeChildren.Pure : Prop := ∀ (l0 : List ByteArray) (a1_0 : Int) (l1_1 : List (S78)) (l1_2 : List Int) (a2 : Int), ((∀ y ∈ l0, y.size ≤ 9223372036854775807) ∧ l0.length ≤ 9223372036854775807) → ((Lit.int .i64 a1_0).wf = true) → ((∀ y ∈ l1_1, Good78 y) ∧ l1_1.length ≤ 9223372036854775807) → ((∀ y ∈ l1_2, (Lit.int .i64 y).wf = true) ∧ l1_2.length ≤ 9223372036854775807) → ((Lit.int .i64 a2).wf = true) → pleachlaw20_TreeChildren.f l0 a1_0 l1_1 l1_2 a2 = some true
end Go.Proofs.YtopllfdjlbnmfaaDoor.ETreeChildren
