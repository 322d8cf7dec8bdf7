/- A shelf cut: the map behind the deletes, the two rows cut. No program in sight. -/
import Derived.Test.YtccekjebfafgcaaDoorCShelfApartMShelf
set_option linter.unusedVariables false
namespace Go.Proofs.YtccekjebfafgcaaDoor.M
open Go.RowKit Go.Proofs.YtccekjebfafgcaaDoorW.PrintWords Go.Proofs.YtccekjebfafgcaaDoorW.PrintMore Go.Maps

theorem data_inj {a b : ByteArray} (h : a.data.toList = b.data.toList) : a = b := by
  cases a; cases b; congr 1; exact Array.toList_inj.1 h
theorem idx_of_nodup {ns : List ByteArray} (h : ns.Nodup) {k : Nat} (hk : k < ns.length) : idx ns (ns.getD k ByteArray.empty).data.toList = some k := by
  obtain ⟨j, hj⟩ := idx_has hk
  obtain ⟨h1, h2⟩ := idx_lt hj
  have e := data_inj h2
  rw [List.getD_eq_getElem?_getD, List.getD_eq_getElem?_getD, List.getElem?_eq_getElem h1, List.getElem?_eq_getElem hk, Option.getD_some, Option.getD_some] at e
  rw [hj]
  congr 1
  have hp := List.pairwise_iff_getElem.1 h
  rcases Nat.lt_trichotomy j k with q | q | q
  · exact absurd e (hp j k h1 hk q)
  · exact q
  · exact absurd e.symm (hp k j hk h1 q)
/-- Where a name stands, of those that are left: the first n, and those from the k-th one on. -/
def left (ns : List ByteArray) (n k : Nat) (key : List UInt8) : Option Nat := (idx ns key).bind fun i => if i < n ∨ k ≤ i then some i else none
/-- The map behind the deletes of the n-th up to the k-th name. -/
def But (ns : List ByteArray) (n k : Nat) (D : DataW Unit) : Prop :=
  ∀ key : List UInt8, Maps.has D (.string key) = (left ns n k key).isSome ∧ D.atKey (.string key) (.lit (.int .i64 0)) = .lit (.int .i64 (((left ns n k key).getD 0 : Nat) : Int))
theorem but_start {ns : List ByteArray} {D : DataW Unit} (h : Told ns D) (n : Nat) : But ns n n D := by
  intro key
  have e : left ns n n key = idx ns key := by
    unfold left
    cases idx ns key with
    | none => rfl
    | some i => simp only [Option.bind]; rw [if_pos (by omega)]
  rw [e]
  exact h key
theorem but_step {ns : List ByteArray} {n k : Nat} {D : DataW Unit} (h : But ns n k D) (hnd : ns.Nodup) (hn : n ≤ k) (hk : k < ns.length) : But ns n (k + 1) (D.del (.string (ns.getD k ByteArray.empty).data.toList)) := by
  intro key
  by_cases e : key = (ns.getD k ByteArray.empty).data.toList
  · subst e
    have hl : left ns n (k + 1) (ns.getD k ByteArray.empty).data.toList = none := by
      unfold left
      rw [idx_of_nodup hnd hk]
      simp only [Option.bind]
      rw [if_neg (by omega)]
    rw [hl, Maps.has_del_same, Maps.atKey_del_same]
    exact ⟨rfl, rfl⟩
  · have hne : (Lit.string key) ≠ Lit.string (ns.getD k ByteArray.empty).data.toList := fun q => e (by injection q)
    have hl : left ns n (k + 1) key = left ns n k key := by
      unfold left
      cases hi : idx ns key with
      | none => rfl
      | some i =>
        have hik : i ≠ k := fun q => e (by rw [← q]; exact (idx_lt hi).2.symm)
        simp only [Option.bind]
        by_cases q : i < n ∨ k ≤ i
        · rw [if_pos q, if_pos (by omega)]
        · rw [if_neg q, if_neg (by omega)]
    rw [hl, Maps.has_del_other hne, Maps.atKey_del_other hne]
    exact h key
theorem but_has {ns : List ByteArray} {n k : Nat} {D : DataW Unit} (h : But ns n k D) (hnd : ns.Nodup) (hk : k < ns.length) : Maps.has D (.string (ns.getD k ByteArray.empty).data.toList) = true := by
  rw [(h _).1]
  unfold left
  rw [idx_of_nodup hnd hk]
  simp only [Option.bind]
  rw [if_pos (by omega)]
  rfl
theorem idx_append (xs ys : List ByteArray) (key : List UInt8) : idx (xs ++ ys) key = (idx xs key).or ((idx ys key).map (· + xs.length)) := by
  unfold idx
  rw [List.findIdx?_append]
theorem idx_take (ns : List ByteArray) {n : Nat} (hn : n ≤ ns.length) (key : List UInt8) : idx (ns.take n) key = left ns n ns.length key := by
  unfold left
  have hs : idx ns key = idx (ns.take n ++ ns.drop n) key := by rw [List.take_append_drop]
  rw [hs, idx_append, List.length_take, Nat.min_eq_left hn]
  cases h1 : idx (ns.take n) key with
  | some i =>
    have := (idx_lt h1).1
    rw [List.length_take] at this
    simp only [Option.or, Option.bind]
    rw [if_pos (by omega)]
  | none =>
    cases h2 : idx (ns.drop n) key with
    | none => rfl
    | some j =>
      have := (idx_lt h2).1
      rw [List.length_drop] at this
      simp only [Option.or, Option.map, Option.bind]
      rw [if_neg (by omega)]
theorem but_end {ns : List ByteArray} {n : Nat} {D : DataW Unit} (h : But ns n ns.length D) (hn : n ≤ ns.length) : Told (ns.take n) D := by
  intro key
  rw [idx_take ns hn]
  exact h key
/-- A map of so many entries. -/
theorem map_fit {P : Program} {k : TypeId} {R : Value → Option (DataW Unit × List MemPlace)} {w : World} {b n m : Nat} {D : DataW Unit} (h : w.ownsMap P k R b n D) (hm : Maps.size D ≤ m) : w.ownsMap P k R b m D := by
  obtain ⟨es, clock, hb, F, hs, rfl⟩ := h
  exact ⟨es, clock, hb, F, by simpa [Maps.size, length_sorted] using hm, rfl⟩
theorem rowW_cut {w : World} {base n m c : Nat} {A : Option Addr} {xs : List Value} (h : rowW w base (.slice A m c) m xs) (hn : n ≤ m) : rowW w base (.slice A n n) n (xs.take n) := by
  obtain ⟨h1, h2⟩ := h
  refine ⟨by rw [List.length_take]; omega, ?_⟩
  rcases h2 with ⟨e, h0⟩ | ⟨g, cap, cur, e, hb, hh, hc, hm, hs, he, ht⟩
  · cases e
    have : n = 0 := by omega
    subst this
    exact .inl ⟨rfl, rfl⟩
  · cases e
    exact .inr ⟨g, n, cur, rfl, hb, hh, Nat.le_refl _, by omega, by omega, fun q => absurd q (Nat.lt_irrefl _), by rw [← ht, List.take_take, Nat.min_eq_left hn]⟩
theorem rowW_cap {w : World} {base n c : Nat} {A : Option Addr} {xs : List Value} (h : rowW w base (.slice A n c) n xs) : n ≤ c := by
  rcases h.2 with ⟨e, h0⟩ | ⟨g, cap, cur, e, hb, hh, hc, hm, hs, he, ht⟩
  · cases e; exact Nat.le_refl _
  · cases e; exact hc
/-- The two rows stored anew. -/
theorem shelf_set {P : Program} {base : Nat} {w : World} {g B : Nat} {D : DataW Unit} {vt vn v1 v2 : Value} {ts : List ByteArray} {a b : ByteArray}
    (blk : w.heap[g]? = some (.cells #[.map (some B), vt, vn, .string a, .string b] 54 (0, 0))) (map : w.ownsMap P 9 (plainElem P 3) B ts.length D) (says : Told (ts.map shaSum) D)
    (rt : rowW w base v1 ts.length (ts.map .string)) (rn : rowW w base v2 ts.length ((ts.map shaSum).map .string)) (gb : base ≤ g) (bb : base ≤ B) (gB : g ≠ B)
    (tg : v1.ownBlock ≠ some g) (tB : v1.ownBlock ≠ some B) (ng : v2.ownBlock ≠ some g) (nB : v2.ownBlock ≠ some B) (tn : v1.ownBlock = none ∨ v1.ownBlock ≠ v2.ownBlock) (nd : (ts.map shaSum).Nodup) :
    shelf P base ((w.setCell ⟨g, 1, none⟩ v1).setCell ⟨g, 2, none⟩ v2) g B D v1 v2 ts a b :=
  ⟨blk_set (blk_set blk 1 _) 2 _, (map.setCell (a := ⟨g, 1, none⟩) gB.symm _).setCell (a := ⟨g, 2, none⟩) gB.symm _, says, row_far (row_far rt tg 1 _) tg 2 _, row_far (row_far rn ng 1 _) ng 2 _, gb, bb, gB, tg, tB, ng, nB, tn, nd⟩
/-- How far the deletes went. -/
structure cutting (P : Program) (base : Nat) (w : World) (g B : Nat) (D : DataW Unit) (vt vn : Value) (ts : List ByteArray) (a b : ByteArray) (n k : Nat) : Prop where
  blk : w.heap[g]? = some (.cells #[.map (some B), vt, vn, .string a, .string b] 54 (0, 0))
  map : w.ownsMap P 9 (plainElem P 3) B ts.length D
  says : But (ts.map shaSum) n k D
  size : Maps.size D + k ≤ ts.length + n
  rt : rowW w base vt ts.length (ts.map .string)
  rn : rowW w base vn ts.length ((ts.map shaSum).map .string)
theorem cutting_start {P : Program} {base : Nat} {w : World} {g B : Nat} {D : DataW Unit} {vt vn : Value} {ts : List ByteArray} {a b : ByteArray} (h : shelf P base w g B D vt vn ts a b) (n : Nat) : cutting P base w g B D vt vn ts a b n n :=
  ⟨h.blk, h.map, but_start h.says n, by have := h.map.size_le; omega, h.rt, h.rn⟩
theorem cutting_step {P : Program} {base : Nat} {w w1 : World} {g B : Nat} {D : DataW Unit} {vt vn : Value} {ts : List ByteArray} {a b x : ByteArray} {n k : Nat} (h : cutting P base w g B D vt vn ts a b n k) (K : Maps.Keyed P 9) (hnd : (ts.map shaSum).Nodup) (hn : n ≤ k) (hk : k < ts.length)
    (hx : (ts.map shaSum).getD k ByteArray.empty = x) (gB : g ≠ B) (tB : vt.ownBlock ≠ some B) (nB : vn.ownBlock ≠ some B) (hm : w1.ownsMap P 9 (plainElem P 3) B ts.length (D.del (.string x.data.toList))) (ht : w.mapTurned w1 B) :
    cutting P base w1 g B (D.del (.string x.data.toList)) vt vn ts a b n (k + 1) := by
  have hg := ht.grown
  have hkl : k < (ts.map shaSum).length := by rw [List.length_map]; exact hk
  subst hx
  refine ⟨(hg.block g (lt_of_block h.blk) (fun e => gB (by injection e))).trans h.blk, hm, but_step h.says hnd hn hkl, ?_, row_keep h.rt hg (.inr tB), row_keep h.rn hg (.inr nB)⟩
  have hs := Maps.size_del (h.map.tidy K) (k := .string ((ts.map shaSum).getD k ByteArray.empty).data.toList)
  rw [but_has h.says hnd hkl, if_pos rfl] at hs
  have := h.size
  omega
theorem own_slice (A : Option Addr) (m c n d : Nat) : (Value.slice A n d).ownBlock = (Value.slice A m c).ownBlock := by cases A <;> rfl
/-- The end: the two rows cut. -/
theorem cutting_end {P : Program} {base : Nat} {w0 w : World} {g B ct cn : Nat} {D0 D : DataW Unit} {At An : Option Addr} {ts : List ByteArray} {a b : ByteArray} {n : Nat} (h0 : shelf P base w0 g B D0 (.slice At ts.length ct) (.slice An ts.length cn) ts a b)
    (h : cutting P base w g B D (.slice At ts.length ct) (.slice An ts.length cn) ts a b n ts.length) (hn : n ≤ ts.length) :
    shelf P base ((w.setCell ⟨g, 1, none⟩ (.slice At n n)).setCell ⟨g, 2, none⟩ (.slice An n n)) g B D (.slice At n n) (.slice An n n) (ts.take n) a b := by
  have hl : (ts.take n).length = n := by rw [List.length_take]; omega
  have hsz : Maps.size D ≤ n := by have := h.size; omega
  have r1 := rowW_cut h.rt hn
  have r2 := rowW_cut h.rn hn
  rw [← List.map_take] at r1 r2
  rw [← List.map_take] at r2
  refine shelf_set h.blk (by rw [hl]; exact map_fit h.map hsz) ?_ (by rw [hl]; exact r1) (by rw [hl]; exact r2) h0.gb h0.bb h0.gB ?_ ?_ ?_ ?_ ?_ ?_
  · rw [List.map_take]
    have := h.says
    rw [show ts.length = (ts.map shaSum).length from (List.length_map _).symm] at this
    exact but_end this (by rw [List.length_map]; exact hn)
  · rw [own_slice At ts.length ct]; exact h0.tg
  · rw [own_slice At ts.length ct]; exact h0.tB
  · rw [own_slice An ts.length cn]; exact h0.ng
  · rw [own_slice An ts.length cn]; exact h0.nB
  · rw [own_slice At ts.length ct, own_slice An ts.length cn]; exact h0.tn
  · rw [List.map_take]; exact h0.nd.sublist (List.take_sublist _ _)
section
variable {P : Program}
/-- x[:n:n]. -/
theorem slice_cut (t e : TypeId) (ht : P.underlying t = some (.slice e)) (hz : ∀ w, (Go.sizeOf e).run P w = .ok 1 w) (A : Option Addr) (len cap n : Nat) (hn : n ≤ cap) (W : World) :
    (Instr.sliceAt t (.slice A len cap) none (some (.int .i64 (n : Int))) (some (.int .i64 (n : Int)))).run P W = .ok (.slice A n n) W := by
  have he : P.elem t = e := by simp [Program.elem, ht]
  have ht' : P.underlying t = some (.slice (P.elem t)) := by rw [he]; exact ht
  rw [run_sliceAt_slice (w := W) (h := ht'), run_slice_hm (w := W) (ht := ht') (h0 := by omega) (h2 := Int.le_refl _) (h3 := by omega), he, hz]
  simp only [Result.andThen, sliced, Int.toNat_natCast, Nat.sub_zero, Nat.zero_mul]
  by_cases h0 : n = 0
  · rw [if_pos h0]
  · rw [if_neg h0]
    cases A with
    | none => rfl
    | some a => rw [Option.map_some, Addr.add_zero']
/-- x[:n]. -/
theorem slice_head (t e : TypeId) (ht : P.underlying t = some (.slice e)) (hz : ∀ w, (Go.sizeOf e).run P w = .ok 1 w) (A : Option Addr) (len cap n : Nat) (hn : n ≤ cap) (W : World) :
    (Instr.sliceAt t (.slice A len cap) none (some (.int .i64 (n : Int))) none).run P W = .ok (.slice A n cap) W := by
  have he : P.elem t = e := by simp [Program.elem, ht]
  have ht' : P.underlying t = some (.slice (P.elem t)) := by rw [he]; exact ht
  rw [run_sliceAt_slice (w := W) (h := ht'), run_slice_h (w := W) (ht := ht') (h0 := by omega) (h2 := by omega), he, hz]
  simp only [Result.andThen, sliced, Int.toNat_natCast, Nat.sub_zero, Nat.zero_mul]
  by_cases h0 : cap = 0
  · rw [if_pos h0]
  · rw [if_neg h0]
    cases A with
    | none => rfl
    | some a => rw [Option.map_some, Addr.add_zero']
/-- x[n:]. -/
theorem slice_tail (t e : TypeId) (ht : P.underlying t = some (.slice e)) (hz : ∀ w, (Go.sizeOf e).run P w = .ok 1 w) (A : Option Addr) (len cap n : Nat) (hn : n ≤ len) (hc : len ≤ cap) :
    ∃ A', (n < len → ∀ {w : World} {base : Nat} {xs : List Value}, rowW w base (.slice A len cap) len xs → ∃ g, A = some ⟨g, 0, none⟩ ∧ A' = some ⟨g, n, none⟩) ∧
      ∀ W, (Instr.sliceAt t (.slice A len cap) (some (.int .i64 (n : Int))) none none).run P W = .ok (.slice A' (len - n) (cap - n)) W := by
  have he : P.elem t = e := by simp [Program.elem, ht]
  have ht' : P.underlying t = some (.slice (P.elem t)) := by rw [he]; exact ht
  refine ⟨if cap = n then A else A.map (·.add (n * 1)), ?_, ?_⟩
  · intro hlt w base xs hr
    obtain ⟨g, cap', e, _, _⟩ := hr.form (by omega)
    cases e
    refine ⟨g, rfl, ?_⟩
    rw [if_neg (by omega)]
    show some ((⟨g, 0, none⟩ : Addr).add (n * 1)) = _
    rw [add_plain, Nat.mul_one]
  · intro W
    rw [run_sliceAt_slice (w := W) (h := ht'), run_slice_l (w := W) (ht := ht') (h0 := by omega) (h1 := by omega), he, hz]
    simp only [Result.andThen, sliced, Int.toNat_natCast]
end
theorem idx_at {ts : List ByteArray} {t : ByteArray} {i : Nat} (h : idx (ts.map shaSum) (shaSum t).data.toList = some i) : shaSum (ts.getD i ByteArray.empty) = shaSum t := by
  obtain ⟨h1, h2⟩ := idx_lt h
  rw [List.length_map] at h1
  have := data_inj h2
  rw [List.getD_eq_getElem?_getD, List.getElem?_map, List.getElem?_eq_getElem h1, Option.map_some, Option.getD_some] at this
  rw [List.getD_eq_getElem?_getD, List.getElem?_eq_getElem h1, Option.getD_some]
  exact this
theorem idx_not {ts : List ByteArray} {t : ByteArray} {k : Nat} (hk : k < ts.length) (h : shaSum (ts.getD k ByteArray.empty) ≠ shaSum t) : ts.getD k ByteArray.empty ≠ t ∧ shaSum (ts.getD k ByteArray.empty) ≠ shaSum t := ⟨fun e => h (by rw [e]), h⟩
theorem idx_before {ts : List ByteArray} {t : ByteArray} {i k : Nat} (h : idx (ts.map shaSum) (shaSum t).data.toList = some i) (hk : k < i) : ts.getD k ByteArray.empty ≠ t ∧ shaSum (ts.getD k ByteArray.empty) ≠ shaSum t := by
  obtain ⟨h1, h2, h3⟩ := List.findIdx?_eq_some_iff_getElem.1 h
  rw [List.length_map] at h1
  refine idx_not (by omega) ?_
  have := h3 k hk
  intro e
  rw [List.getElem_map] at this
  rw [List.getD_eq_getElem?_getD, List.getElem?_eq_getElem (show k < ts.length by omega), Option.getD_some] at e
  rw [e] at this
  simp at this
theorem idx_never {ts : List ByteArray} {t : ByteArray} {k : Nat} (h : idx (ts.map shaSum) (shaSum t).data.toList = none) (hk : k < ts.length) : ts.getD k ByteArray.empty ≠ t ∧ shaSum (ts.getD k ByteArray.empty) ≠ shaSum t := by
  refine idx_not hk ?_
  intro e
  refine idx_none h ?_
  rw [← e, List.getD_eq_getElem?_getD, List.getElem?_eq_getElem hk, Option.getD_some]
  exact List.mem_map_of_mem (List.getElem_mem hk)
/-- What Cut leaves. -/
def SS.cut (s : SS) (n : Nat) : SS := ⟨s.ts.take n, s.a, s.b⟩
def yes : ByteArray → Bool := fun _ => true
/-- What Only makes of the first k texts. -/
def SS.only (s : SS) (p : ByteArray → Bool) (k : Nat) : SS := ((s.ts.take k).filter fun t => p (shaSum t)).foldl (fun q t => (q.put t).2.2) SS.none_
theorem SS.only_zero (p : ByteArray → Bool) (ts : List ByteArray) (a b : ByteArray) : SS.only ⟨ts, a, b⟩ p 0 = SS.none_ := rfl
theorem SS.only_step (p : ByteArray → Bool) (ts : List ByteArray) (a b : ByteArray) (k : Nat) (hk : k < ts.length) :
    SS.only ⟨ts, a, b⟩ p (k + 1) = if p (shaSum (ts.getD k ByteArray.empty)) = true then ((SS.only ⟨ts, a, b⟩ p k).put (ts.getD k ByteArray.empty)).2.2 else SS.only ⟨ts, a, b⟩ p k := by
  unfold SS.only
  have e : ts.getD k ByteArray.empty = ts[k] := by simp [List.getD, hk]
  rw [e]
  simp only
  rw [List.take_succ_eq_append_getElem hk, List.filter_append, List.foldl_append]
  by_cases h : p (shaSum ts[k]) = true
  · rw [if_pos h, List.filter_cons_of_pos (p := fun t => p (shaSum t)) h]; rfl
  · rw [if_neg h, List.filter_cons_of_neg (p := fun t => p (shaSum t)) h]; rfl
theorem SS.put_len (s : SS) (t : ByteArray) : (s.put t).2.2.ts.length ≤ s.ts.length + 1 := by
  unfold SS.put
  split
  · simp
  · split
    · simp
    · split
      · simp
      · split
        · simp
        · simp only; split <;> simp
theorem SS.fold_len (l : List ByteArray) : ∀ s : SS, (l.foldl (fun q t => (q.put t).2.2) s).ts.length ≤ s.ts.length + l.length := by
  induction l with
  | nil => intro s; exact Nat.le_refl _
  | cons t l ih =>
    intro s
    rw [List.foldl_cons, List.length_cons]
    have h1 := ih (s.put t).2.2
    have h2 := s.put_len t
    omega
theorem SS.only_len (p : ByteArray → Bool) (ts : List ByteArray) (a b : ByteArray) (k : Nat) : (SS.only ⟨ts, a, b⟩ p k).ts.length ≤ ts.length := by
  have h1 := SS.fold_len (((⟨ts, a, b⟩ : SS).ts.take k).filter fun t => p (shaSum t)) SS.none_
  have h2 := List.length_filter_le (fun t => p (shaSum t)) ((⟨ts, a, b⟩ : SS).ts.take k)
  have h3 : (ts.take k).length ≤ ts.length := by rw [List.length_take]; omega
  have h4 : (SS.none_).ts.length = 0 := rfl
  unfold SS.only
  have h5 : ((⟨ts, a, b⟩ : SS).ts.take k).length = (ts.take k).length := rfl
  omega
end Go.Proofs.YtccekjebfafgcaaDoor.M
