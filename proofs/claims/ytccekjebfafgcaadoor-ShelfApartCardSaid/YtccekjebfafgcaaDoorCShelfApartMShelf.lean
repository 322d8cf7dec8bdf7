/- A shelf in memory. No program in sight. -/
import Derived.Test.YtccekjebfafgcaaDoorCShelfApartMHash
import Derived.Maps.Own
import Derived.Maps.OwnOps
import Derived.Maps.OwnSet
import Derived.Maps.Views
import Derived.OneCell
import Derived.Laws.Cover3
import Derived.Lib.Strings
import Derived.Test.YtccekjebfafgcaaDoorCShelfApartWKept
set_option linter.unusedVariables false
namespace Go.Proofs.YtccekjebfafgcaaDoor.M
open Go.RowKit Go.Proofs.YtccekjebfafgcaaDoorW.PrintWords Go.Proofs.YtccekjebfafgcaaDoorW.PrintMore Go.Maps

/-- Where a name stands. -/
def idx (ns : List ByteArray) (key : List UInt8) : Option Nat := ns.findIdx? fun x => decide (x.data.toList = key)
/-- The map tells where each name stands. -/
def Told (ns : List ByteArray) (D : DataW Unit) : Prop :=
  ∀ key : List UInt8, Maps.has D (.string key) = (idx ns key).isSome ∧ D.atKey (.string key) (.lit (.int .i64 0)) = .lit (.int .i64 (((idx ns key).getD 0 : Nat) : Int))
theorem told_nil : Told [] (.map []) := fun key => ⟨rfl, rfl⟩
theorem key_lit {l : List UInt8} : WideAt.IsKeyLit (.string l) := by first | trivial | exact True.intro | (unfold WideAt.IsKeyLit; trivial) | simp [WideAt.IsKeyLit]
theorem idx_lt {ns : List ByteArray} {key : List UInt8} {i : Nat} (h : idx ns key = some i) : i < ns.length ∧ (ns.getD i ByteArray.empty).data.toList = key := by
  unfold idx at h
  obtain ⟨hlt, hp, _⟩ := List.findIdx?_eq_some_iff_getElem.1 h
  exact ⟨hlt, by simpa [List.getD, hlt] using hp⟩
theorem idx_snoc (ns : List ByteArray) (s : ByteArray) (key : List UInt8) : idx (ns ++ [s]) key = (idx ns key).or (if s.data.toList = key then some ns.length else none) := by
  unfold idx
  rw [List.findIdx?_append]
  congr 1
  by_cases h : s.data.toList = key <;> simp [h, List.findIdx?_cons]
theorem told_new {ns : List ByteArray} {D : DataW Unit} (h : Told ns D) (hD : Maps.IsMap D) (s : ByteArray) (hn : idx ns s.data.toList = none) : Told (ns ++ [s]) (D.put (.string s.data.toList) (.lit (.int .i64 (ns.length : Int)))) := by
  intro key
  have hk := h key
  rw [idx_snoc]
  by_cases e : s.data.toList = key
  · subst e
    rw [hn]
    simp only [if_true, Option.none_or]
    exact ⟨Maps.has_put_same hD key_lit _, Maps.atKey_put_same hD key_lit _ _⟩
  · have hne : (Lit.string key) ≠ Lit.string s.data.toList := fun q => e (by injection q with q; exact q.symm)
    rw [if_neg e, Option.or_none, Maps.has_put_other hne, Maps.atKey_put_other hne]
    exact hk
theorem nonempty {a : ByteArray} (h : a ≠ ByteArray.empty) : a.toList.isEmpty = false := by
  rw [Lib.toList_data]
  cases hq : a.data.toList with
  | nil => exact absurd (by cases a; rename_i d; congr 1; exact Array.toList_eq_nil_iff.1 hq) h
  | cons x l => rfl
theorem shaText_len (l : List Nat) : (shaText l).length = 4 * l.length := by
  induction l with
  | nil => rfl
  | cons x l ih => simp only [shaText, List.flatMap_cons, List.length_append] at ih ⊢; rw [ih]; simp; omega
theorem eat_len (s : List Nat) (l : List UInt8) (h : s.length = 8) : ∀ k, (eat s l k).length = 8
  | 0 => h
  | k + 1 => by simp [eat, turned]
theorem shaSum_size (t : ByteArray) : (shaSum t).size = 32 := by
  unfold shaSum
  rw [size_sb, shaText_len, eat_len _ _ (eat_len _ _ rfl _)]
theorem unlike {x t : ByteArray} (h : x ≠ t) : (x.toList != t.toList) = true := bne_iff_ne.mpr fun e => h (by
  rw [Lib.toList_data, Lib.toList_data] at e
  cases x; cases t; congr 1; exact Array.toList_inj.1 e)
/-- A row of texts in a block of one's own: of just the row's room, or cut to its length (s[:n:n]; the block may be longer). -/
def rowW (w : World) (base : Nat) (v : Value) (n : Nat) (xs : List Value) : Prop :=
  xs.length = n ∧ ((v = .slice none 0 0 ∧ n = 0) ∨
    ∃ g cap cur, v = .slice (some ⟨g, 0, none⟩) n cap ∧ base ≤ g ∧ w.heap[g]? = some (.cells cur 9 (0, 0)) ∧ n ≤ cap ∧ cap ≤ maxLen ∧ cap ≤ cur.size ∧ (n < cap → cur.size = cap) ∧ cur.toList.take n = xs)
theorem rowW_slice {w : World} {base n : Nat} {v : Value} {xs : List Value} (h : rowW w base v n xs) : ∃ A c, v = .slice A n c := by
  rcases h.2 with ⟨rfl, rfl⟩ | ⟨g, cap, cur, e, _⟩
  · exact ⟨none, 0, rfl⟩
  · exact ⟨_, _, e⟩
theorem rowW.form {w : World} {base n : Nat} {v : Value} {xs : List Value} (h : rowW w base v n xs) (hn : 0 < n) : ∃ g cap, v = .slice (some ⟨g, 0, none⟩) n cap ∧ base ≤ g ∧ n ≤ cap := by
  rcases h.2 with ⟨_, h0⟩ | ⟨g, cap, cur, e, hg, _, hc, _⟩
  · omega
  · exact ⟨g, cap, e, hg, hc⟩
theorem rowW.cells {w : World} {base n : Nat} {v : Value} {xs : List Value} (h : rowW w base v n xs) {g : Nat} (hg : v.ownBlock = some g) : ∀ j u, xs[j]? = some u → w.cell? ((⟨g, 0, none⟩ : Addr).add j) = some u := by
  rcases h.2 with ⟨e, _⟩ | ⟨g1, cap, cur, e, _, hh, _, _, _, _, ht⟩
  · rw [e] at hg; cases hg
  · intro j u hu
    rw [e] at hg
    injection hg with hg
    have hg1 : g1 = g := hg
    subst hg1
    rw [add_plain]
    refine blk_cell hh j u ?_
    rw [← ht, List.getElem?_take] at hu
    split at hu
    · simpa using hu
    · cases hu
theorem rowW_of_own {w : World} {base n : Nat} {v : Value} {xs : List Value} (h : w.ownsRow base 9 1 v n xs) : rowW w base v n xs := by
  obtain ⟨h1, h2⟩ := h
  rw [Nat.mul_one] at h1
  refine ⟨h1, h2.imp id ?_⟩
  rintro ⟨g, cap, cur, e, hb, hh, hn, hm, hs, ht⟩
  rw [Nat.mul_one] at hs ht
  exact ⟨g, cap, cur, e, hb, hh, hn, hm, Nat.le_of_eq hs.symm, fun _ => hs, ht⟩
theorem rowW_own {w : World} {base n c : Nat} {A : Option Addr} {xs : List Value} (h : rowW w base (.slice A n c) n xs) (hc : n < c) : w.ownsRow base 9 1 (.slice A n c) n xs := by
  obtain ⟨h1, h2⟩ := h
  refine ⟨by rw [Nat.mul_one]; exact h1, h2.imp id ?_⟩
  rintro ⟨g, cap, cur, e, hb, hh, hn, hm, hs, he, ht⟩
  cases e
  exact ⟨g, c, cur, rfl, hb, hh, hn, hm, by rw [Nat.mul_one]; exact he hc, by rw [Nat.mul_one]; exact ht⟩
/-- Block g is a shelf of those texts, in their order; a, b: the two unlike ones that were met. -/
structure shelf (P : Program) (base : Nat) (w : World) (g B : Nat) (D : DataW Unit) (vt vn : Value) (ts : List ByteArray) (a b : ByteArray) : Prop where
  blk : w.heap[g]? = some (.cells #[.map (some B), vt, vn, .string a, .string b] 54 (0, 0))
  map : w.ownsMap P 9 (plainElem P 3) B ts.length D
  says : Told (ts.map shaSum) D
  rt : rowW w base vt ts.length (ts.map .string)
  rn : rowW w base vn ts.length ((ts.map shaSum).map .string)
  gb : base ≤ g
  bb : base ≤ B
  gB : g ≠ B
  tg : vt.ownBlock ≠ some g
  tB : vt.ownBlock ≠ some B
  ng : vn.ownBlock ≠ some g
  nB : vn.ownBlock ≠ some B
  tn : vt.ownBlock = none ∨ vt.ownBlock ≠ vn.ownBlock
  nd : (ts.map shaSum).Nodup
theorem row_cell {w : World} {base g n c : Nat} {ts : List ByteArray} (h : rowW w base (.slice (some ⟨g, 0, none⟩) n c) n (ts.map .string)) (i : Nat) (x : ByteArray) (hi : i < ts.length) (hx : ts.getD i ByteArray.empty = x) : w.cell? ⟨g, i, none⟩ = some (.string x) := by
  have ci := h.cells (g := g) rfl i (.string x) (by rw [← hx]; simp [List.getD, hi])
  rwa [add_plain] at ci
theorem row_below {w w1 : World} {base n : Nat} {v : Value} {xs : List Value} (h : rowW w base v n xs) (hb : Below w.heap.size w w1) : rowW w1 base v n xs := by
  rcases h with ⟨h1, h2 | ⟨g, cap, cur, e, hg, hh, h3⟩⟩
  · exact ⟨h1, .inl h2⟩
  · exact ⟨h1, .inr ⟨g, cap, cur, e, hg, (hb.block g (lt_of_block hh)).trans hh, h3⟩⟩
theorem row_far {w : World} {base n g : Nat} {v : Value} {xs : List Value} (h : rowW w base v n xs) (hne : v.ownBlock ≠ some g) (i : Nat) (u : Value) : rowW (w.setCell ⟨g, i, none⟩ u) base v n xs := by
  rcases h with ⟨h1, h2 | ⟨g1, cap, cur, e, hg, hh, h3⟩⟩
  · exact ⟨h1, .inl h2⟩
  · refine ⟨h1, .inr ⟨g1, cap, cur, e, hg, ?_, h3⟩⟩
    rw [Below.heap_setCell _ _ _ _ (show g1 ≠ g from fun e2 => hne (by rw [e, ← e2]; rfl))]
    exact hh
theorem shelf_clash {P : Program} {base : Nat} {w : World} {g B : Nat} {D : DataW Unit} {vt vn : Value} {ts : List ByteArray} {a b : ByteArray} (h : shelf P base w g B D vt vn ts a b) (x t : ByteArray) : shelf P base ((w.setCell ⟨g, 3, none⟩ (.string x)).setCell ⟨g, 4, none⟩ (.string t)) g B D vt vn ts x t :=
  ⟨blk_set (blk_set h.blk 3 _) 4 _, (h.map.setCell (a := ⟨g, 3, none⟩) h.gB.symm _).setCell (a := ⟨g, 4, none⟩) h.gB.symm _, h.says, row_far (row_far h.rt h.tg 3 _) h.tg 4 _, row_far (row_far h.rn h.ng 3 _) h.ng 4 _, h.gb, h.bb, h.gB, h.tg, h.tB, h.ng, h.nB, h.tn, h.nd⟩
theorem row_keep {w w1 : World} {base n : Nat} {v : Value} {xs : List Value} {row : Option Nat} (h : rowW w base v n xs) (hg : w.grownBy w1 row) (hne : v.ownBlock = none ∨ v.ownBlock ≠ row) : rowW w1 base v n xs := by
  rcases h with ⟨h1, h2 | ⟨g1, cap, cur, e, hb, hh, h3⟩⟩
  · exact ⟨h1, .inl h2⟩
  · refine ⟨h1, .inr ⟨g1, cap, cur, e, hb, (hg.block g1 (lt_of_block hh) (fun e2 => ?_)).trans hh, h3⟩⟩
    rcases hne with hn | hn
    · rw [e] at hn; cases hn
    · exact hn (by rw [e, ← e2]; rfl)
theorem row_lt {w : World} {base n : Nat} {v : Value} {xs : List Value} (h : rowW w base v n xs) : ∀ k, v.ownBlock = some k → k < w.heap.size := by
  intro k hk
  rcases h with ⟨h1, ⟨h2, _⟩ | ⟨g1, cap, cur, e, hb, hh, h3⟩⟩
  · rw [h2] at hk; cases hk
  · rw [e] at hk
    injection hk with hk
    have : g1 = k := hk
    rw [← this]; exact lt_of_block hh
theorem grown_from {w3 W w4 : World} {row : Option Nat} (hg : W.grownBy w4 row) (hW : Below w3.heap.size w3 W) : w3.grownBy w4 row := ⟨hg.os.trans hW.os, hg.tape.trans hW.tape, hg.output.trans hW.output, Nat.le_trans hW.size hg.size, fun i hi hr => (hg.block i (Nat.lt_of_lt_of_le hi hW.size) hr).trans (hW.block i hi)⟩
theorem sep {x y : Option Nat} (h : x = none ∨ x ≠ y) : y = none ∨ y ≠ x := by
  rcases h with h | h
  · cases y with
    | none => exact .inl rfl
    | some k => exact .inr (by rw [h]; simp)
  · exact .inr (Ne.symm h)
/-- A text and its name behind the others: the two rows stored anew. -/
theorem shelf_snoc {P : Program} {base : Nat} {w : World} {g B : Nat} {D : DataW Unit} {vt vn v1 v2 : Value} {ts : List ByteArray} {a b t : ByteArray}
    (blk : w.heap[g]? = some (.cells #[.map (some B), vt, vn, .string a, .string b] 54 (0, 0))) (map : w.ownsMap P 9 (plainElem P 3) B (ts.length + 1) D) (says : Told ((ts ++ [t]).map shaSum) D)
    (rt : rowW w base v1 (ts.length + 1) ((ts ++ [t]).map .string)) (rn : rowW w base v2 (ts.length + 1) (((ts ++ [t]).map shaSum).map .string)) (gb : base ≤ g) (bb : base ≤ B) (gB : g ≠ B)
    (tg : v1.ownBlock ≠ some g) (tB : v1.ownBlock ≠ some B) (ng : v2.ownBlock ≠ some g) (nB : v2.ownBlock ≠ some B) (tn : v1.ownBlock = none ∨ v1.ownBlock ≠ v2.ownBlock) (nd : ((ts ++ [t]).map shaSum).Nodup) :
    shelf P base ((w.setCell ⟨g, 1, none⟩ v1).setCell ⟨g, 2, none⟩ v2) g B D v1 v2 (ts ++ [t]) a b :=
  ⟨blk_set (blk_set blk 1 _) 2 _, by rw [List.length_append]; exact (map.setCell (a := ⟨g, 1, none⟩) gB.symm _).setCell (a := ⟨g, 2, none⟩) gB.symm _, says, by rw [List.length_append]; exact row_far (row_far rt tg 1 _) tg 2 _, by rw [List.length_append]; exact row_far (row_far rn ng 1 _) ng 2 _, gb, bb, gB, tg, tB, ng, nB, tn, nd⟩
theorem shelf_below {P : Program} {base : Nat} {w w1 : World} {g B : Nat} {D : DataW Unit} {vt vn : Value} {ts : List ByteArray} {a b : ByteArray} (h : shelf P base w g B D vt vn ts a b) (hb : Below w.heap.size w w1) : shelf P base w1 g B D vt vn ts a b :=
  ⟨(hb.block g (lt_of_block h.blk)).trans h.blk, h.map.kept (grown_of_below hb none) (by simp), h.says, row_below h.rt hb, row_below h.rn hb, h.gb, h.bb, h.gB, h.tg, h.tB, h.ng, h.nB, h.tn, h.nd⟩
/-- The blocks in which a shelf stands. -/
def feet (g B : Nat) (vt vn : Value) (k : Nat) : Prop := k = g ∨ k = B ∨ vt.ownBlock = some k ∨ vn.ownBlock = some k
theorem feet_lt {P : Program} {base : Nat} {w : World} {g B : Nat} {D : DataW Unit} {vt vn : Value} {ts : List ByteArray} {a b : ByteArray} (h : shelf P base w g B D vt vn ts a b) : ∀ k, feet g B vt vn k → k < w.heap.size := by
  rintro k (rfl | rfl | e | e)
  · exact lt_of_block h.blk
  · exact h.map.lt
  · exact row_lt h.rt k e
  · exact row_lt h.rn k e
theorem row_ge {w : World} {base n : Nat} {v : Value} {xs : List Value} (h : rowW w base v n xs) : ∀ k, v.ownBlock = some k → base ≤ k := by
  intro k hk
  rcases h with ⟨h1, ⟨h2, _⟩ | ⟨g1, cap, cur, e, hb, hh, h3⟩⟩
  · rw [h2] at hk; cases hk
  · rw [e] at hk
    injection hk with hk
    have : g1 = k := hk
    rw [← this]; exact hb
theorem feet_ge {P : Program} {base : Nat} {w : World} {g B : Nat} {D : DataW Unit} {vt vn : Value} {ts : List ByteArray} {a b : ByteArray} (h : shelf P base w g B D vt vn ts a b) : ∀ k, feet g B vt vn k → base ≤ k := by
  rintro k (rfl | rfl | e | e)
  · exact h.gb
  · exact h.bb
  · exact row_ge h.rt k e
  · exact row_ge h.rn k e
theorem idx_none {ns : List ByteArray} {s : ByteArray} (h : idx ns s.data.toList = none) : s ∉ ns := by
  intro hm
  have := List.findIdx?_eq_none_iff.1 h s hm
  simp at this
theorem nd_snoc {ts : List ByteArray} {t : ByteArray} (h : (ts.map shaSum).Nodup) (hn : idx (ts.map shaSum) (shaSum t).data.toList = none) : ((ts ++ [t]).map shaSum).Nodup := by
  rw [List.map_append, List.nodup_append]
  refine ⟨h, by simp, ?_⟩
  intro a ha b hb e
  rw [List.map_cons, List.map_nil, List.mem_singleton] at hb
  exact idx_none hn (by rw [← hb, ← e]; exact ha)
/-- The end of Put of a new text: the map's world w3, the rows' worlds w4 and w5, the two stores. -/
theorem shelf_end {P : Program} {base : Nat} {w w2 w3 w4 w5 : World} {g B z4 z5 : Nat} {D D' : DataW Unit} {vt vn v4 v5 : Value} {ts : List ByteArray} {a b t : ByteArray}
    (h2 : shelf P base w2 g B D vt vn ts a b) (h23 : w2.heap.size ≤ w3.heap.size) (hm3 : w3.ownsMap P 9 (plainElem P 3) B (ts.length + 1) D') (says : Told (ts.map shaSum ++ [shaSum t]) D')
    (hg4 : w3.grownBy w4 vt.ownBlock) (ho4 : rowW w4 base v4 (ts.length + 1) ((ts ++ [t]).map .string)) (ha4 : v4.ownBlock = vt.ownBlock ∨ ∃ b, v4.ownBlock = some b ∧ z4 ≤ b) (hz4 : w3.heap.size ≤ z4)
    (hg5 : w4.grownBy w5 vn.ownBlock) (ho5 : rowW w5 base v5 (ts.length + 1) ((ts.map shaSum ++ [shaSum t]).map .string)) (ha5 : v5.ownBlock = vn.ownBlock ∨ ∃ b, v5.ownBlock = some b ∧ z5 ≤ b) (hz5 : w4.heap.size ≤ z5)
    (hk5 : w5.heap[g]? = some (.cells #[.map (some B), vt, vn, .string a, .string b] 54 (0, 0))) (hq3 : Kept w w3 (feet g B vt vn)) (hnd : ((ts ++ [t]).map shaSum).Nodup) :
    shelf P base ((w5.setCell ⟨g, 1, none⟩ v4).setCell ⟨g, 2, none⟩ v5) g B D' v4 v5 (ts ++ [t]) a b ∧ Kept w ((w5.setCell ⟨g, 1, none⟩ v4).setCell ⟨g, 2, none⟩ v5) (feet g B vt vn) ∧ ∀ k, feet g B v4 v5 k → feet g B vt vn k ∨ w.heap.size ≤ k := by
  have lg := lt_of_block h2.blk
  have lB := h2.map.lt
  have lt := row_lt h2.rt
  have ln := row_lt h2.rn
  have l4 := row_lt ho4
  have s3 := hq3.1
  have s4 := hg4.size
  refine ⟨shelf_snoc hk5 ((hm3.kept hg4 (fun e => h2.tB e.symm)).kept hg5 (fun e => h2.nB e.symm)) (by simpa using says) (row_keep ho4 hg5 ?_) (by simpa using ho5) h2.gb h2.bb h2.gB ?_ ?_ ?_ ?_ ?_ hnd, ?_, ?_⟩
  · rcases ha4 with e | ⟨b, e, hb⟩
    · rw [e]; exact h2.tn
    · exact .inr (fun e2 => by rw [e] at e2; have := ln b e2.symm; omega)
  · rcases ha4 with e | ⟨b, e, hb⟩
    · rw [e]; exact h2.tg
    · rw [e]; intro e2; injection e2 with e2; omega
  · rcases ha4 with e | ⟨b, e, hb⟩
    · rw [e]; exact h2.tB
    · rw [e]; intro e2; injection e2 with e2; omega
  · rcases ha5 with e | ⟨b, e, hb⟩
    · rw [e]; exact h2.ng
    · rw [e]; intro e2; injection e2 with e2; omega
  · rcases ha5 with e | ⟨b, e, hb⟩
    · rw [e]; exact h2.nB
    · rw [e]; intro e2; injection e2 with e2; omega
  · rcases ha4 with e | ⟨b, e, hb⟩
    · rcases ha5 with e5 | ⟨b5, e5, hb5⟩
      · rw [e, e5]; exact h2.tn
      · rw [e, e5]; refine .inr (fun e2 => ?_); have := lt b5 e2; omega
    · rcases ha5 with e5 | ⟨b5, e5, hb5⟩
      · rw [e, e5]; refine .inr (fun e2 => ?_); have := ln b e2.symm; omega
      · rw [e, e5]; refine .inr (fun e2 => ?_); injection e2 with e2; have := l4 b e; omega
  · exact ((Kept.of_grown hg5 (Kept.of_grown hg4 hq3 (fun k hk => .inl (.inr (.inr (.inl hk))))) (fun k hk => .inl (.inr (.inr (.inr hk))))).setCell (p := ⟨g, 1, none⟩) (.inl (.inl rfl)) _).setCell (p := ⟨g, 2, none⟩) (.inl (.inl rfl)) _
  · rintro k (e | e | e | e)
    · exact .inl (.inl e)
    · exact .inl (.inr (.inl e))
    · rcases ha4 with e4 | ⟨b, e4, hb⟩
      · exact .inl (.inr (.inr (.inl (by rw [← e4]; exact e))))
      · rw [e] at e4; injection e4 with e4; exact .inr (by omega)
    · rcases ha5 with e4 | ⟨b, e4, hb⟩
      · exact .inl (.inr (.inr (.inr (by rw [← e4]; exact e))))
      · rw [e] at e4; injection e4 with e4; exact .inr (by omega)
/-- A shelf's texts, and the two unlike ones with one sum that were met. -/
structure SS where
  ts : List ByteArray
  a : ByteArray
  b : ByteArray
def SS.none_ : SS := ⟨[], ByteArray.empty, ByteArray.empty⟩
/-- Block g of w is a shelf of s; F: blocks among which it stands. -/
def Sh (P : Program) (base : Nat) (w : World) (g : Nat) (F : Nat → Prop) (s : SS) : Prop :=
  ∃ B D vt vn, shelf P base w g B D vt vn s.ts s.a s.b ∧ (∀ k, feet g B vt vn k → F k) ∧ ∀ k, F k → base ≤ k ∧ k < w.heap.size
theorem Sh.below {P : Program} {base : Nat} {w w1 : World} {g : Nat} {F : Nat → Prop} {s : SS} (h : Sh P base w g F s) (hb : Below w.heap.size w w1) : Sh P base w1 g F s := by
  obtain ⟨B, D, vt, vn, hs, hF, hl⟩ := h
  exact ⟨B, D, vt, vn, shelf_below hs hb, hF, fun k hk => ⟨(hl k hk).1, Nat.lt_of_lt_of_le (hl k hk).2 hb.size⟩⟩
/-- What Put answers, and the shelf behind it. -/
def SS.put (s : SS) (t : ByteArray) : ByteArray × Int × SS :=
  if t = ByteArray.empty then (ByteArray.empty, 2, s)
  else if 65536 < t.size then (ByteArray.empty, 5, s)
  else match idx (s.ts.map shaSum) (shaSum t).data.toList with
    | none => (shaSum t, 0, ⟨s.ts ++ [t], s.a, s.b⟩)
    | some i => if s.ts.getD i ByteArray.empty = t then (shaSum t, 0, s)
      else (ByteArray.empty, 15, if s.a = ByteArray.empty then ⟨s.ts, s.ts.getD i ByteArray.empty, t⟩ else s)
/-- What a call leaves of a shelf: behind it s stands there, and all beside the shelf's blocks is as it was. -/
def ShTo (P : Program) (base : Nat) (w : World) (g : Nat) (F : Nat → Prop) (s : SS) (w' : World) : Prop :=
  ∃ F', Sh P base w' g F' s ∧ (∀ k, F' k → F k ∨ w.heap.size ≤ k) ∧ Kept w w' F ∧ Below base w w'
theorem Sh.base_le {P : Program} {base : Nat} {w : World} {g : Nat} {F : Nat → Prop} {s : SS} (h : Sh P base w g F s) : base ≤ w.heap.size := by
  obtain ⟨B, D, vt, vn, hs, hF, hl⟩ := h
  exact Nat.le_of_lt (Nat.lt_of_le_of_lt hs.gb (lt_of_block hs.blk))
theorem Sh.same {P : Program} {base : Nat} {w w1 : World} {g : Nat} {F : Nat → Prop} {s : SS} (h : Sh P base w g F s) (hb : Below w.heap.size w w1) : ShTo P base w g F s w1 :=
  ⟨F, h.below hb, fun _ hk => .inl hk, Kept.of_below hb _, hb.mono h.base_le⟩
theorem Sh.to_ {P : Program} {base : Nat} {w w1 : World} {g B : Nat} {F : Nat → Prop} {s s1 : SS} {D D1 : DataW Unit} {vt vn vt1 vn1 : Value} (h : shelf P base w g B D vt vn s.ts s.a s.b) (hF : ∀ k, feet g B vt vn k → F k) (hl : ∀ k, F k → base ≤ k ∧ k < w.heap.size)
    (h1 : shelf P base w1 g B D1 vt1 vn1 s1.ts s1.a s1.b) (hb : Below base w w1) (hk : Kept w w1 (feet g B vt vn)) (hf : ∀ k, feet g B vt1 vn1 k → feet g B vt vn k ∨ w.heap.size ≤ k) : ShTo P base w g F s1 w1 :=
  ⟨fun k => F k ∨ feet g B vt1 vn1 k, ⟨B, D1, vt1, vn1, h1, fun k hk => .inr hk, fun k hk' => hk'.elim (fun hk1 => ⟨(hl k hk1).1, Nat.lt_of_lt_of_le (hl k hk1).2 hk.1⟩) (fun hk1 => ⟨feet_ge h1 k hk1, feet_lt h1 k hk1⟩)⟩,
    fun k hk1 => hk1.elim .inl (fun hk2 => (hf k hk2).elim (fun hk3 => .inl (hF k hk3)) .inr), hk.mono hF, hb⟩
/-- What Get answers. -/
def SS.get (s : SS) (name : ByteArray) : ByteArray × Bool :=
  match idx (s.ts.map shaSum) name.data.toList with
  | none => (ByteArray.empty, false)
  | some i => (s.ts.getD i ByteArray.empty, true)
theorem idx_has {ns : List ByteArray} {i : Nat} (h : i < ns.length) : ∃ k, idx ns (ns.getD i ByteArray.empty).data.toList = some k := by
  unfold idx
  cases hq : List.findIdx? (fun x => decide (x.data.toList = (ns.getD i ByteArray.empty).data.toList)) ns with
  | some k => exact ⟨k, rfl⟩
  | none =>
    have := List.findIdx?_eq_none_iff.1 hq (ns.getD i ByteArray.empty) (by simp [List.getD, h])
    simp at this
theorem getD_mem {ts : List ByteArray} {i : Nat} (h : i < ts.length) : ts.getD i ByteArray.empty ∈ ts := by simp [List.getD, h]
theorem row_lower {w : World} {base b2 n : Nat} {v : Value} {xs : List Value} (h : rowW w base v n xs) (hb : b2 ≤ base) : rowW w b2 v n xs := by
  rcases h with ⟨h1, h2 | ⟨g1, cap, cur, e, hg, hh, h3⟩⟩
  · exact ⟨h1, .inl h2⟩
  · exact ⟨h1, .inr ⟨g1, cap, cur, e, Nat.le_trans hb hg, hh, h3⟩⟩
theorem Sh.lower {P : Program} {base b2 : Nat} {w : World} {g : Nat} {F : Nat → Prop} {s : SS} (h : Sh P base w g F s) (hb : b2 ≤ base) : Sh P b2 w g F s := by
  obtain ⟨B, D, vt, vn, hs, hF, hl⟩ := h
  exact ⟨B, D, vt, vn, ⟨hs.blk, hs.map, hs.says, row_lower hs.rt hb, row_lower hs.rn hb, Nat.le_trans hb hs.gb, Nat.le_trans hb hs.bb, hs.gB, hs.tg, hs.tB, hs.ng, hs.nB, hs.tn, hs.nd⟩, hF, fun k hk => ⟨Nat.le_trans hb (hl k hk).1, (hl k hk).2⟩⟩
theorem SS.put_mem (s : SS) (t : ByteArray) : ∀ x ∈ (s.put t).2.2.ts, x ∈ s.ts ∨ x = t := by
  intro x hx
  unfold SS.put at hx
  split at hx
  · exact .inl hx
  · split at hx
    · exact .inl hx
    · split at hx
      · rcases List.mem_append.1 hx with h | h
        · exact .inl h
        · exact .inr (List.mem_singleton.1 h)
      · split at hx
        · exact .inl hx
        · simp only at hx
          split at hx <;> exact .inl hx
theorem Sh.ge {P : Program} {base : Nat} {w : World} {g : Nat} {F : Nat → Prop} {s : SS} (h : Sh P base w g F s) : ∀ k, F k → base ≤ k := by
  obtain ⟨B, D, vt, vn, hs, hF, hl⟩ := h
  exact fun k hk => (hl k hk).1
end Go.Proofs.YtccekjebfafgcaaDoor.M
