/- Rows of texts of the call's own, and the library's Clone, Insert, Delete over them: one contract each, over any program (the shelf's contracts joined). -/
import Derived.Shelf.Slices.Clone
import Derived.Shelf.Slices.Delete
import Derived.Shelf.Spec.SlicesInsert
import Derived.Shelf.Spec.SlicesInsertGrow
import Derived.Sort.OwnSorted
import Derived.Test.YtgmclfihgooebaaWWords
namespace Go.Proofs.Ytgmclfihgooebaa.M
open Go.RowKit Go.Shelf Go.Sort Go.Proofs Go.Proofs.YtgmclfihgooebaaW.PrintWords
variable {P : Program} {ρ : Ren}

def strs (xs : List ByteArray) : List Value := xs.map Value.string
theorem strs_length (xs : List ByteArray) : (strs xs).length = xs.length := List.length_map _
theorem strs_one (xs : List ByteArray) : ∀ v ∈ strs xs, v.oneCell' = true := by
  intro v hv
  obtain ⟨x, _, rfl⟩ := List.mem_map.1 hv
  rfl
theorem clone_any (L : Lays2.n16 P ρ) (A : Option Addr) (c : Nat) (xs : List ByteArray) (w : World) (hr : Kd.C Kd.string w A xs.length xs) (hbig : xs.length * 16 ≤ 140737488355328) :
    Calls P (ρ.f 16) #[.slice A xs.length c] w fun e w' => ∃ v', e = .returned v' ∧ w'.ownsRow w.heap.size (ρ.t 9) 1 v' xs.length (strs xs) ∧ Below w.heap.size w w' := by
  rcases A with _ | a
  · have h0 : xs = [] := by
      rcases Nat.eq_zero_or_pos xs.length with h | h
      · exact List.eq_nil_of_length_eq_zero h
      · obtain ⟨ad, h', _⟩ := hr.2.2 h
        cases h'
    subst h0
    refine (Any.slices_Clone_string_nil L 0 c w).mono ?_
    rintro e w' ⟨rfl, rfl⟩
    exact ⟨_, rfl, own_nil _ _ _ _, Below.refl _ _⟩
  · rcases Nat.eq_zero_or_pos xs.length with h | h
    · obtain rfl : xs = [] := List.eq_nil_of_length_eq_zero h
      refine (Any.slices_Clone_string_zero L a c w).mono ?_
      rintro e w' ⟨v', rfl, ho, _, hb⟩
      exact ⟨_, rfl, ho, hb⟩
    · obtain ⟨ad, h', hc⟩ := hr.2.2 h
      cases h'
      have hcell : ∀ j (hj : j < xs.length), w.cell? (a.add j) = some (.string xs[j]) := by
        intro j hj
        obtain ⟨c, h1, h2, h3⟩ := hc j _ (List.getElem?_eq_getElem hj)
        have h2' : c = [Value.string xs[j]] := h2
        have := h3 0 _ (by rw [h2']; rfl)
        simpa [Kd.string, Kd.scalar] using this
      have hsp : a.spot = none := by
        have := hcell 0 h
        cases hs : a.spot with
        | none => rfl
        | some q => exact absurd this (by unfold World.cell? Addr.add; simp only [hs, Option.isSome_some, if_true]; split <;> simp)
      obtain ⟨b, off, sp⟩ := a
      cases hsp
      have hx : (xs.take xs.length).map Value.string = strs xs := by rw [List.take_length]; rfl
      refine (Any.slices_Clone_string L b off xs.length c xs w (Nat.le_refl _) hbig (fun j hj => ?_)).mono ?_
      · have := hcell j hj
        rw [show xs.getD j ByteArray.empty = xs[j] by simp [hj]]
        have e : (⟨b, off, none⟩ : Addr).add j = ⟨b, off + j, none⟩ := by unfold Addr.add; split <;> simp_all
        rw [e] at this; exact this
      · rintro e w' ⟨v', rfl, ho, _, hb⟩
        rw [hx] at ho
        exact ⟨_, rfl, ho, hb⟩
/-- A row of the call's own, from what stands in its block. -/
theorem own_mk {w : World} {B g n cap : Nat} {e : TypeId} {cur : Array Value} {xs : List Value} (hB : B ≤ g) (hg : w.heap[g]? = some (.cells cur e (0, 0))) (hn : n ≤ cap) (hc : cap ≤ maxLen) (hs : cur.size = cap) (hl : xs.length = n) (ht : cur.toList.take n = xs) :
    w.ownsRow B e 1 (.slice (some ⟨g, 0, none⟩) n cap) n xs :=
  ⟨by rw [Nat.mul_one]; exact hl, .inr ⟨g, cap, cur, rfl, hB, hg, hn, hc, by rw [Nat.mul_one]; exact hs, by rw [Nat.mul_one]; exact ht⟩⟩
theorem below_setCells' {B g : Nat} {a w : World} (h : Below B a w) (hg : B ≤ g) (o : Nat) (vs : List Value) : Below B a (w.setCells g o vs) := by
  obtain ⟨h1, h2, h3, h4⟩ := setCells_same g vs o w
  exact ⟨h1.trans h.os, h2.trans h.tape, h3.trans h.output, by rw [h4]; exact h.size, fun k hk => (setCells_far vs o k (by omega)).trans (h.block k hk)⟩
theorem setCells_drow {g : Nat} {e : TypeId} (vs : List Value) (o : Nat) (w : World) (cur : Array Value) (h : w.heap[g]? = some (.cells cur e (0, 0))) (hl : o + vs.length ≤ cur.size) :
    ∃ cur', (w.drew.setCells g o vs).heap[g]? = some (.cells cur' e (0, 0)) ∧ cur'.size = cur.size ∧ cur'.toList = cur.toList.take o ++ vs ++ cur.toList.drop (o + vs.length) := setCells_row vs o w.drew cur h hl
theorem list_shift {α : Type} (cur ys : List α) (s : α) {i n : Nat} (h : cur.take n = ys) (hl : ys.length = n) (hi : i < n) (hc : n + 1 ≤ cur.length) :
    ((cur.take (0 + (i + 1)) ++ ys.drop i ++ cur.drop (0 + (i + 1) + (ys.drop i).length)).take (0 + i) ++ [s] ++ (cur.take (0 + (i + 1)) ++ ys.drop i ++ cur.drop (0 + (i + 1) + (ys.drop i).length)).drop (0 + i + [s].length)).take (n + 1) = ys.take i ++ s :: ys.drop i := by
  have l1 : (cur.take (i + 1)).length = i + 1 := by rw [List.length_take]; omega
  have l2 : cur.take i = ys.take i := by rw [← h, List.take_take, Nat.min_eq_left (by omega)]
  have e1 : ∀ r : List α, (cur.take (i + 1) ++ r).take i = ys.take i := by
    intro r
    rw [List.take_append_of_le_length (by omega), List.take_take, Nat.min_eq_left (by omega), l2]
  have e2 : ∀ r : List α, (cur.take (i + 1) ++ r).drop (i + 1) = r := fun r => List.drop_left' l1
  simp only [Nat.zero_add, List.length_singleton]
  rw [List.append_assoc (cur.take (i + 1)), e1, e2, List.append_assoc, List.singleton_append, ← List.cons_append, ← List.append_assoc, List.take_left']
  rw [List.length_append, List.length_take, List.length_cons, List.length_drop]; omega
theorem ins_any (L : Lays2.n22 P ρ) (B : Nat) (v : Value) (xs : List ByteArray) (s : ByteArray) (i : Nat) (v2 : Value) (B2 : Nat) (tv : TypeId) (w : World) (hi : i ≤ xs.length) (hv : w.ownsRow B (ρ.t 9) 1 v xs.length (strs xs)) (hv2 : w.ownsRow B2 tv 1 v2 1 (strs [s]))
    (hne : ∀ k, v.ownBlock = some k → v2.ownBlock ≠ some k) (hB : B ≤ w.heap.size) (hbig : (xs.length + 1) * 16 ≤ 140737488355328) :
    Calls P (ρ.f 22) #[v, .int .i64 i, v2] w fun e w' => ∃ v', e = .returned v' ∧ w'.ownsRow B (ρ.t 9) 1 v' (xs.length + 1) (strs (xs.take i ++ s :: xs.drop i)) ∧ Below B w w' := by
  rcases hv2.2 with ⟨_, h0⟩ | ⟨vb, cap2, cur2, rfl, hg2, hh2, hn2, hcm2, hcs2, ht2⟩
  · omega
  rw [Nat.mul_one] at hcs2
  have hvs : ∀ j u, ([Value.string s] : List Value)[j]? = some u → w.cell? ⟨vb, 0 + j, none⟩ = some u := by
    intro j u hu
    have hj : j < 1 := by
      rcases Nat.lt_or_ge j 1 with h | h
      · exact h
      · rw [List.getElem?_eq_none (by simpa using h)] at hu; cases hu
    rw [Nat.zero_add, hv2.cellAt j (by rw [Nat.mul_one]; omega)]; exact hu
  have h1v : ∀ u ∈ ([Value.string s] : List Value), u.oneCell' = true := by intro u hu; rw [List.mem_singleton.1 hu]; rfl
  have hsl := strs_length xs
  have hlen : (strs (xs.take i ++ s :: xs.drop i)).length = xs.length + 1 := by rw [strs_length, List.length_append, List.length_cons, List.length_take, List.length_drop]; omega
  have hspl : strs (xs.take i ++ s :: xs.drop i) = (strs xs).take i ++ Value.string s :: (strs xs).drop i := by unfold strs; rw [List.map_append, List.map_cons, List.map_take, List.map_drop]
  have hend : xs.length = i → strs (xs.take i ++ s :: xs.drop i) = strs xs ++ [Value.string s] := by
    intro h; subst h
    rw [hspl, List.take_of_length_le (by omega), List.drop_of_length_le (by omega)]
  rcases hv.2 with ⟨rfl, h0⟩ | ⟨g, cap, cur, rfl, hg, hh, hn, hcm, hcs, ht⟩
  · -- nil
    obtain rfl : xs = [] := List.eq_nil_of_length_eq_zero h0
    obtain rfl : i = 0 := by simpa using hi
    refine (Any2.slices_Insert_string_end_grow L none 0 0 vb 0 1 cap2 [] [.string s] w (by omega) (by omega) (by omega) (by omega) rfl rfl (fun _ => rfl) (fun a h => by cases h) hvs h1v).mono ?_
    rintro e w' ⟨rfl, rfl⟩
    refine ⟨_, rfl, ?_, (Below.refl B w).drew.alloc hB _⟩
    have hge := grownCap_ge w (0 + 1) 0 (ρ.t 9)
    have hle := grownCap_le_maxLen w (0 + 1) 0 (ρ.t 9) (by simp [maxLen])
    refine own_mk hB (by exact heap_alloc_new _ _) hge hle ?_ rfl ?_
    · have : grownCap w (0 + 1) 0 (ρ.t 9) - 1 + 1 = grownCap w (0 + 1) 0 (ρ.t 9) := by omega
      simp [Go.size_zeroCells, Value.cells] at this ⊢; omega
    · simp [strs]
  · rw [Nat.mul_one] at hcs ht
    have hcl : ∀ j u, (strs xs)[j]? = some u → w.cell? ⟨g, 0 + j, none⟩ = some u := by
      intro j u hu
      have hj : j < (strs xs).length := by
        rcases Nat.lt_or_ge j (strs xs).length with h | h
        · exact h
        · rw [List.getElem?_eq_none h] at hu; cases hu
      rw [Nat.zero_add, hv.cellAt j (by rw [Nat.mul_one]; omega)]; exact hu
    have hsome : ∀ j, j < cap → (w.cell? ⟨g, 0 + j, none⟩).isSome = true := by
      intro j hj
      simp [World.cell?, hh, hcs, hj]
    have hfz : ∀ j, w.frozen? ⟨g, 0 + j, none⟩ = false := by
      intro j
      simp [World.frozen?, hh]
    have hgne : vb ≠ g := by
      intro h; subst h; exact hne vb rfl rfl
    by_cases hroom : xs.length + 1 ≤ cap
    · rcases Nat.lt_or_ge i xs.length with hlt | hge
      · -- shift
        refine (Any2.slices_Insert_string_shift L g 0 xs.length cap i vb 0 1 cap2 (strs xs) [.string s] w hlt (by omega) hroom hcm hgne hsl rfl hcl (fun j hj => hsome j (by omega)) (fun j _ => hfz j) hvs (strs_one xs) h1v tv (ρ.t 9) cap2 cap (by simp [World.shape?, hh2, hcs2]) (by simp [World.shape?, hh, hcs]) (by omega) (by simp [World.frozen?, hh2]) (by simp [World.frozen?, hh2])).mono ?_
        rintro e w' ⟨rfl, rfl⟩
        refine ⟨_, rfl, ?_, below_setCells' (below_setCells' (Below.refl B w).drew hg _ _) hg _ _⟩
        obtain ⟨c1, h1, h2, h3⟩ := setCells_row (e := ρ.t 9) ((strs xs).drop i) (0 + (i + 1)) w.drew cur hh (by rw [List.length_drop]; omega)
        obtain ⟨c2, k1, k2, k3⟩ := setCells_row (e := ρ.t 9) [Value.string s] (0 + i) _ c1 h1 (by simp; omega)
        refine own_mk hg k1 hroom hcm (by omega) hlen ?_
        rw [k3, h3, hspl]
        exact list_shift cur.toList (strs xs) _ ht hsl hlt (by rw [Array.length_toList (xs := cur)]; omega)
      · obtain rfl : i = xs.length := by omega
        refine (Any2.slices_Insert_string_end_room L g 0 xs.length cap vb 0 1 cap2 [.string s] w (by omega) hroom hcm rfl (fun j hj => by rw [show (0 + xs.length + j) = 0 + (xs.length + j) by omega]; exact hsome _ (by omega)) (fun j _ => by rw [show (0 + xs.length + j) = 0 + (xs.length + j) by omega]; exact hfz _) hvs h1v).mono ?_
        rintro e w' ⟨rfl, rfl⟩
        refine ⟨_, rfl, ?_, below_setCells' (Below.refl B w) hg _ _⟩
        obtain ⟨c1, h1, h2, h3⟩ := setCells_row (e := ρ.t 9) [Value.string s] (0 + xs.length) w cur hh (by simp; omega)
        refine own_mk hg h1 hroom hcm (by omega) hlen ?_
        rw [h3, hend rfl, Nat.zero_add, ht]
        rw [List.take_append_of_le_length (by rw [List.length_append]; simp; omega), List.take_of_length_le (by rw [List.length_append]; simp; omega)]
    · rcases Nat.lt_or_ge i xs.length with hlt | hge
      · refine (Any2.slices_Insert_string_grow L g 0 xs.length cap i vb 0 1 cap2 (strs xs) [.string s] w hlt (by omega) hn (by omega) hbig hsl rfl hcl hvs (strs_one xs) h1v).mono ?_
        rintro e w' ⟨rfl, rfl⟩
        have hge := grownCap_ge w (xs.length + 1) cap (ρ.t 9)
        have hle := grownCap_le_maxLen w (xs.length + 1) cap (ρ.t 9) (by simp [maxLen]; omega)
        generalize grownCap w (xs.length + 1) cap (ρ.t 9) = C at hge hle ⊢
        refine ⟨_, rfl, ?_, below_setCells' ((below_setCells' (((Below.refl B w).alloc hB _).drew) hB _ _).drew) hB _ _⟩
        obtain ⟨c1, h1, h2, h3⟩ := setCells_row (e := ρ.t 9) [Value.string s] i (w.alloc (.cells (((strs xs).take i).toArray ++ Builtin.zeroCells (Value.string ⟨#[]⟩).cells (xs.length + 1 - i) ++ Builtin.zeroCells (Value.string ⟨#[]⟩).cells (C - (xs.length + 1))) (ρ.t 9))).drew _ (heap_alloc_new _ _) (by simp [Go.size_zeroCells, Value.cells]; omega)
        obtain ⟨c2, k1, k2, k3⟩ := setCells_drow (e := ρ.t 9) ((strs xs).drop i) (i + 1) _ c1 h1 (by rw [h2]; simp [Go.size_zeroCells, Value.cells]; omega)
        refine own_mk hB k1 hge hle (by rw [k2, h2]; simp [Go.size_zeroCells, Value.cells]; omega) hlen ?_
        have li : ((strs xs).take i).length = i := by rw [List.length_take]; omega
        rw [k3, h3, hspl, Array.toList_append, Array.toList_append, List.append_assoc ((strs xs).take i), List.take_left' li]
        rw [show i + 1 = ((strs xs).take i ++ [Value.string s]).length by simp; omega, List.take_left, List.append_assoc, List.append_assoc]
        rw [← List.append_assoc, ← List.append_assoc, List.take_append_of_le_length (by simp; omega), List.take_of_length_le (by simp; omega)]
        simp
      · obtain rfl : i = xs.length := by omega
        refine (Any2.slices_Insert_string_end_grow L (some ⟨g, 0, none⟩) xs.length cap vb 0 1 cap2 (strs xs) [.string s] w (by omega) hn (by omega) hbig hsl rfl (fun h => by cases h) (fun a h j u hu => by cases h; rw [add_plain, ← Nat.zero_add j]; exact hcl j u hu) hvs h1v).mono ?_
        rintro e w' ⟨rfl, rfl⟩
        have hge := grownCap_ge w (xs.length + 1) cap (ρ.t 9)
        have hle := grownCap_le_maxLen w (xs.length + 1) cap (ρ.t 9) (by simp [maxLen]; omega)
        generalize grownCap w (xs.length + 1) cap (ρ.t 9) = C at hge hle ⊢
        refine ⟨_, rfl, ?_, (Below.refl B w).drew.alloc hB _⟩
        refine own_mk hB (by exact heap_alloc_new _ _) hge hle ?_ hlen ?_
        · simp [Go.size_zeroCells, Value.cells]; omega
        · rw [hend rfl, Array.toList_append, List.take_append_of_le_length (by simp; omega), List.take_of_length_le (by simp; omega)]
theorem del_any (L : Lays2.n24 P ρ) (B : Nat) (v : Value) (xs : List ByteArray) (i : Nat) (w : World) (hi : i < xs.length) (hv : w.ownsRow B (ρ.t 9) 1 v xs.length (strs xs)) :
    Calls P (ρ.f 24) #[v, .int .i64 i, .int .i64 ((i + 1 : Nat) : Int)] w fun e w' => ∃ v', e = .returned v' ∧ w'.ownsRow B (ρ.t 9) 1 v' (xs.length - 1) (strs (xs.take i ++ xs.drop (i + 1))) ∧ Below B w w' := by
  rcases hv.2 with ⟨rfl, h0⟩ | ⟨g, cap, cur, rfl, hg, hh, hn, hcm, hcs, ht⟩
  · omega
  · rw [Nat.mul_one] at hcs ht
    have hz : (xs.map fun x => x.data.toList).length = xs.length := List.length_map _
    have he : strs xs = (xs.map fun x => x.data.toList).map encStr := by
      unfold strs
      rw [List.map_map]
      apply List.map_congr_left
      intro x _
      simp [encStr]
    have hH := holds_of_block (ss := xs.map fun x => x.data.toList) hh (by rw [hz, ht, he])
    have hD := Any.slices_Delete_string L g 0 cap i (i + 1) (xs.map fun x => x.data.toList) w hH (by rw [hz]; exact hn) hcm (by omega) (by rw [hz]; omega)
    rw [hz] at hD
    refine hD.mono ?_
    rintro e w' ⟨rfl, q, rfl⟩
    generalize hts : (List.take i (xs.map fun x => x.data.toList) ++ List.drop (i + 1) (xs.map fun x => x.data.toList) ++ List.replicate (i + 1 - i) []) = ts
    have htl : ts.length = (xs.map fun x => x.data.toList).length := by
      rw [← hts]; simp; omega
    have ho := ownsRow_sorted (n := q) (os := #[]) (w := w) (ss := xs.map fun x => x.data.toList) htl hg hh (by rw [hz]; exact hn) hcm (by rw [Nat.mul_one]; exact hcs)
    rw [hz] at ho
    have hb := grownBy_sorted (w := w) (g := g) (n := q) (os := #[]) ts.toArray
    have hgr : ∀ W : World, grow W #[] = W := by intro W; simp [grow]
    rw [hgr] at ho hb
    refine ⟨_, rfl, ?_, (Below.refl B w).grown hb (by have := (Array.getElem?_eq_some_iff.1 hh).1; omega) (fun k hk => by cases hk; exact hg)⟩
    have ho2 := own_take (m := xs.length - 1) ho (by omega)
    have e2 : List.take ((xs.length - 1) * 1) (ts.map encStr) = strs (xs.take i ++ xs.drop (i + 1)) := by
      rw [← hts, Nat.mul_one, List.map_append, List.take_left' (by simp; omega)]
      unfold strs
      simp [List.map_append, List.map_take, List.map_drop, Function.comp_def, encStr]
    rw [e2] at ho2
    rw [show xs.length - (i + 1 - i) = xs.length - 1 by omega]
    exact ho2
/-- The two words for a row of texts of the call's own. -/
theorem row_in {w : World} {B : Nat} {e : TypeId} {v : Value} {xs : List ByteArray} (h : w.ownsRow B e 1 v xs.length (strs xs)) : Kd.R Kd.string e w B (fun _ => True) v xs := by
  refine ⟨fun _ _ => trivial, strs xs, h, by rw [strs_length]; exact (Nat.mul_one _).symm, fun j p hp => ?_⟩
  have hj : j < xs.length := (List.getElem?_eq_some_iff.1 hp).1
  have : (List.drop (j * 1) (strs xs)).take 1 = [Value.string p] := by
    rw [Nat.mul_one, List.take_one, List.head?_drop]
    unfold strs
    rw [List.getElem?_map, hp]; rfl
  exact this
theorem row_out {w : World} {B : Nat} {e : TypeId} {ok : Nat → Prop} {v : Value} {xs : List ByteArray} (h : Kd.R Kd.string e w B ok v xs) : w.ownsRow B e 1 v xs.length (strs xs) := by
  obtain ⟨_, inner, ho, hl, hr⟩ := h
  have : inner = strs xs := by
    apply List.ext_getElem?
    intro j
    have hl' : inner.length = xs.length := by rw [hl]; exact Nat.mul_one _
    unfold strs
    rw [List.getElem?_map]
    rcases Nat.lt_or_ge j xs.length with hj | hj
    · have h1 : (List.drop (j * 1) inner).take 1 = [Value.string xs[j]] := hr j _ (List.getElem?_eq_getElem hj)
      rw [Nat.mul_one, List.take_one, List.head?_drop, List.getElem?_eq_getElem (by omega)] at h1
      rw [List.getElem?_eq_getElem (by omega), List.getElem?_eq_getElem hj]
      simpa using h1
    · rw [List.getElem?_eq_none (by omega), List.getElem?_eq_none hj]; rfl
  rw [this] at ho
  exact ho
theorem reads_n {α : Type} {R : α → List Value → Prop} {sz m n : Nat} {w : World} {A : Option Addr} {xs : List α} (h : ReadsRow R sz w A m xs) (e : m = n) : ReadsRow R sz w A n xs := e ▸ h
/-- A row that is read, whoever made it. -/
def Seen {α : Type} (d : Kd α) (w : World) (v : Value) (xs : List α) : Prop := ∃ A c, v = .slice A xs.length c ∧ xs.length ≤ c ∧ d.C w A xs.length xs
section
variable {α : Type} {d : Kd α} {w w1 : World} {v : Value} {xs : List α}
theorem seen_slice (h : Seen d w v xs) : ∃ A c, v = .slice A xs.length c := by
  obtain ⟨A, c, e, _⟩ := h
  exact ⟨A, c, e⟩
theorem seen_reads' {A : Option Addr} {n c : Nat} (h : Seen d w (.slice A n c) xs) : n = xs.length ∧ n ≤ c ∧ d.C w A xs.length xs := by
  obtain ⟨A', c', he, hl, hr⟩ := h
  injection he with h1 h2 h3
  subst h1
  exact ⟨h2, by omega, hr⟩
theorem seen_below (h : Seen d w v xs) (hb : Below w.heap.size w w1) : Seen d w1 v xs := by
  obtain ⟨A, c, e, hl, hr⟩ := h
  exact ⟨A, c, e, hl, Kd.C_below hr hb⟩
theorem seen_alloc (h : Seen d w v xs) (o : Obj) : Seen d (w.alloc o) v xs := seen_below h (below_alloc (Below.refl _ _) o)
theorem seen_drewN (h : Seen d w v xs) (m : Nat) : Seen d (w.drewN m) v xs := seen_below h (pw_below_drewN (Below.refl _ _) m)
theorem seen_drew (h : Seen d w v xs) : Seen d w.drew v xs := seen_below h (below_drew (Below.refl _ _))
theorem seen_own {e base : Nat} {ok : Nat → Prop} (h : d.R e w base ok v xs) : Seen d w v xs := Kd.R_reads h
end
end Go.Proofs.Ytgmclfihgooebaa.M
