-- Laid by this session's own program (wip/tools/fold.py): this session's texts and words that print.sh laid for the seat, cut to what the claim names and put together; Lean checks it.
import Derived.Test.YtkjbhgolillidaaDoorUMarkNames1
import Derived.Shelf.Slices.Clone
import Derived.Shelf.Slices.Delete
import Derived.Shelf.Spec.SlicesInsert
import Derived.Shelf.Spec.SlicesInsertGrow
import Derived.Sort.OwnSorted
import Derived.Shelf.Sort.Plain
import Derived.Shelf.Slices.In.SortNone
import Derived.Sort.Walk0
namespace Go.Proofs.YtkjbhgolillidaaDoor.M
open Go.RowKit Go.Shelf Go.Sort Go.Proofs Go.Proofs.YtkjbhgolillidaaDoorW.PrintWords
variable {P : Program} {ρ : Ren}
def strs (xs : List ByteArray) : List Value := xs.map Value.string
theorem strs_length (xs : List ByteArray) : (strs xs).length = xs.length := List.length_map _
theorem clone_any (L : Lays2.n16 P ρ) (A : Option Addr) (c : Nat) (xs : List ByteArray) (w : World) (hr : Kd.C Kd.string w A xs.length xs) (hbig : xs.length * 16 ≤ 140737488355328) :
    Calls P (ρ.f 16) #[.slice A xs.length c] w fun e w' => ∃ v', e = .returned v' ∧ w'.ownsRow w.heap.size (ρ.t 9) 1 v' xs.length (strs xs) ∧ Below w.heap.size w w' := by
 rcases A with _ | a
 ·have h0 : xs = [] := by
   rcases Nat.eq_zero_or_pos xs.length with h | h
   ·exact List.eq_nil_of_length_eq_zero h
   ·obtain ⟨ad, h', _⟩ := hr.2.2 h
    cases h'
  subst h0
  refine (Any.slices_Clone_string_nil L 0 c w).mono ?_
  rintro e w' ⟨rfl, rfl⟩
  exact ⟨_, rfl, own_nil _ _ _ _, Below.refl _ _⟩
 ·rcases Nat.eq_zero_or_pos xs.length with h | h
  ·obtain rfl : xs = [] := List.eq_nil_of_length_eq_zero h
   refine (Any.slices_Clone_string_zero L a c w).mono ?_
   rintro e w' ⟨v', rfl, ho, _, hb⟩
   exact ⟨_, rfl, ho, hb⟩
  ·obtain ⟨ad, h', hc⟩ := hr.2.2 h
   cases h'
   have hcell : ∀ j (hj : j < xs.length), w.cell? (a.add j) = some (.string xs[j]) := by
    intro j hj
    obtain ⟨c, h1, h2, h3⟩ := hc j _ (List.getElem?_eq_getElem hj)
    have h2' : c = [Value.string xs[j]] := h2
    have := h3 0 _ (by rw [h2']; rfl)
    simpa [Kd.string, Kd.scalar] using this
   have hsp : a.spot = none := by
    have := hcell 0 h
    cases hs : a.spot with
    | none => rfl
    | some q => exact absurd this (by unfold World.cell? Addr.add; simp only [hs, Option.isSome_some, if_true]; split <;> simp)
   obtain ⟨b, off, sp⟩ := a
   cases hsp
   have hx : (xs.take xs.length).map Value.string = strs xs := by rw [List.take_length]; rfl
   refine (Any.slices_Clone_string L b off xs.length c xs w (Nat.le_refl _) hbig (fun j hj => ?_)).mono ?_
   ·have := hcell j hj
    rw [show xs.getD j ByteArray.empty = xs[j] by simp [hj]]
    have e : (⟨b, off, none⟩ : Addr).add j = ⟨b, off + j, none⟩ := by unfold Addr.add; split <;> simp_all
    rw [e] at this; exact this
   ·rintro e w' ⟨v', rfl, ho, _, hb⟩
    rw [hx] at ho
    exact ⟨_, rfl, ho, hb⟩
theorem row_in {w : World} {B : Nat} {e : TypeId} {v : Value} {xs : List ByteArray} (h : w.ownsRow B e 1 v xs.length (strs xs)) : Kd.R Kd.string e w B (fun _ => True) v xs := by
 refine ⟨fun _ _ => trivial, strs xs, h, by rw [strs_length]; exact (Nat.mul_one _).symm, fun j p hp => ?_⟩
 have hj : j < xs.length := (List.getElem?_eq_some_iff.1 hp).1
 have : (List.drop (j * 1) (strs xs)).take 1 = [Value.string p] := by
  rw [Nat.mul_one, List.take_one, List.head?_drop]
  unfold strs
  rw [List.getElem?_map, hp]; rfl
 exact this
theorem row_out {w : World} {B : Nat} {e : TypeId} {ok : Nat → Prop} {v : Value} {xs : List ByteArray} (h : Kd.R Kd.string e w B ok v xs) : w.ownsRow B e 1 v xs.length (strs xs) := by
 obtain ⟨_, inner, ho, hl, hr⟩ := h
 have : inner = strs xs := by
  apply List.ext_getElem?
  intro j
  have hl' : inner.length = xs.length := by rw [hl]; exact Nat.mul_one _
  unfold strs
  rw [List.getElem?_map]
  rcases Nat.lt_or_ge j xs.length with hj | hj
  ·have h1 : (List.drop (j * 1) inner).take 1 = [Value.string xs[j]] := hr j _ (List.getElem?_eq_getElem hj)
   rw [Nat.mul_one, List.take_one, List.head?_drop, List.getElem?_eq_getElem (by omega)] at h1
   rw [List.getElem?_eq_getElem (by omega), List.getElem?_eq_getElem hj]
   simpa using h1
  ·rw [List.getElem?_eq_none (by omega), List.getElem?_eq_none hj]; rfl
 rw [this] at ho
 exact ho
section
variable {α : Type} {d : Kd α} {w w1 : World} {v : Value} {xs : List α}
end
open Go.RowKit Go.Shelf Go.Sort Go.Proofs Go.Proofs.YtkjbhgolillidaaDoorW.PrintWords
def sortB (l : List ByteArray) : List ByteArray := ((l.map fun x => x.data.toList).mergeSort fun x y => decide (x ≤ y)).map fun y => (⟨y.toArray⟩ : ByteArray)
theorem back_id (l : List ByteArray) : ((l.map fun x => x.data.toList).map fun y => (⟨y.toArray⟩ : ByteArray)) = l := by
 rw [List.map_map]
 conv => rhs; rw [← List.map_id l]
 apply List.map_congr_left
 intro x _
 simp
theorem sortB_perm (l : List ByteArray) : (sortB l).Perm l := by
 have h := (List.mergeSort_perm (l.map fun x => x.data.toList) fun x y => decide (x ≤ y)).map fun y => (⟨y.toArray⟩ : ByteArray)
 rw [back_id] at h
 exact h
variable {P : Program} {ρ : Ren}
theorem sort_any (L : Lays.n190 P ρ) (e : TypeId) (P0_ : Nat → Prop) (u : Value) (l0 : List ByteArray) (w0 w : World) (hB : Below w0.heap.size w0 w) (ho0 : Kd.R Kd.string e w w0.heap.size P0_ u l0) (hsz : l0.length < 4611686018427387904) :
    Calls P (ρ.f 190) #[u] w fun e_ w' => e_ = .returned (.tuple #[]) ∧ Kd.R Kd.string e w' w0.heap.size (fun k_ => (P0_ k_ ∨ w.heap.size ≤ k_)) u (sortB l0) ∧ Below w0.heap.size w0 w' ∧ Kept w w' (fun k_ => P0_ k_) := by
 have ho := row_out ho0
 rcases ho.2 with ⟨rfl, h0⟩ | ⟨g, cap, cur, rfl, hg, hh, hn, hcm, hcs, ht⟩
 ·obtain rfl : l0 = [] := List.eq_nil_of_length_eq_zero h0
  refine (Any.slices_Sort_string_none L none 0 w).mono ?_
  rintro e_ w' ⟨rfl, rfl⟩
  have hn : sortB [] = [] := by unfold sortB; simp
  rw [hn]
  exact ⟨rfl, Kd.R_nil _ _ _ _ _, hB, Kept.refl _ _⟩
 ·rw [Nat.mul_one] at hcs ht
  have hz : (l0.map fun x => x.data.toList).length = l0.length := List.length_map _
  have he : strs l0 = (l0.map fun x => x.data.toList).map encStr := by
   unfold strs
   rw [List.map_map]
   apply List.map_congr_left
   intro x _
   simp [encStr]
  have hgl := (Array.getElem?_eq_some_iff.1 hh).1
  have hH := holds_of_block (ss := l0.map fun x => x.data.toList) hh (by rw [hz, ht, he])
  have hS := Any.slices_Sort_string L g 0 cap (l0.map fun x => x.data.toList) w hH hgl (by rw [hz]; exact hsz)
  rw [hz] at hS
  refine hS.mono ?_
  rintro e_ w' ⟨rfl, n, os, rfl⟩
  have hlen : ((l0.map fun x => x.data.toList).mergeSort fun x y => decide (x ≤ y)).length = (l0.map fun x => x.data.toList).length := List.length_mergeSort _
  have hro := ownsRow_sorted (n := n) (os := os) (w := w) (ss := l0.map fun x => x.data.toList) hlen hg hh (by rw [hz]; exact hn) hcm (by rw [Nat.mul_one]; exact hcs)
  have hgr := grownBy_sorted (w := w) (g := g) (n := n) (os := os) ((l0.map fun x => x.data.toList).mergeSort fun x y => decide (x ≤ y)).toArray
  have hstr : ((l0.map fun x => x.data.toList).mergeSort fun x y => decide (x ≤ y)).map encStr = strs (sortB l0) := by
   unfold sortB strs
   rw [List.map_map]; rfl
  have hsl : (sortB l0).length = l0.length := (sortB_perm l0).length_eq
  rw [hstr, hz, ← hsl] at hro
  have hr := row_in hro
  rw [hsl] at hr
  have hp : P0_ g := ho0.1 g (by simp [Value.ownBlock])
  refine ⟨rfl, ⟨fun k hk => ?_, hr.2.imp_ (fun _ _ hp => hp)⟩, hB.grown hgr hB.size (fun k hk => by cases hk; exact hg), ⟨hgr.size, fun i hi hn => hgr.block i hi (fun e => by cases e; exact hn hp)⟩⟩
  have : g = k := by simpa [Value.ownBlock] using hk
  subst this
  exact .inl hp
end Go.Proofs.YtkjbhgolillidaaDoor.M
