/- slices.Sort over a row of texts of the call's own (the shelf's contract, in the print's words); and what it makes of two lists that rise. -/
import Derived.Shelf.Sort.Plain
import Derived.Shelf.Slices.In.SortNone
import Derived.Sort.Walk0
import Derived.Test.YtccekjebfafgcaaDoorCShelfApartMRow
import Derived.Test.YtccekjebfafgcaaDoorCShelfApartMSorted
import Derived.Test.YtccekjebfafgcaaDoorCShelfApartWKept
namespace Go.Proofs.YtccekjebfafgcaaDoor.M
open Go.RowKit Go.Shelf Go.Sort Go.Proofs Go.Proofs.YtccekjebfafgcaaDoorW.PrintWords

def sortB (l : List ByteArray) : List ByteArray := ((l.map fun x => x.data.toList).mergeSort fun x y => decide (x ≤ y)).map fun y => (⟨y.toArray⟩ : ByteArray)
theorem back_id (l : List ByteArray) : ((l.map fun x => x.data.toList).map fun y => (⟨y.toArray⟩ : ByteArray)) = l := by
  rw [List.map_map]
  conv => rhs; rw [← List.map_id l]
  apply List.map_congr_left
  intro x _
  simp
theorem sortB_perm (l : List ByteArray) : (sortB l).Perm l := by
  have h := (List.mergeSort_perm (l.map fun x => x.data.toList) fun x y => decide (x ≤ y)).map fun y => (⟨y.toArray⟩ : ByteArray)
  rw [back_id] at h
  exact h
theorem le_of_less (x y : List UInt8) : x ≤ y ↔ Op.bytesLess y x = false := by
  rw [bytesLess_eq]
  simp [List.not_lt]
theorem lt_data (a b : ByteArray) : lt a b ↔ Op.bytesLess a.data.toList b.data.toList = true := by
  unfold lt
  rw [toList_bs, toList_bs]; rfl
theorem sortB_rises {l : List ByteArray} (h : l.Nodup) : rises (sortB l) := by
  have hn : (sortB l).Nodup := (sortB_perm l).nodup_iff.2 h
  have hs : ((l.map fun x => x.data.toList).mergeSort fun x y => decide (x ≤ y)).Pairwise fun x y => (decide (x ≤ y)) = true := by
    refine List.pairwise_mergeSort (fun a b c h1 h2 => ?_) (fun a b => ?_) _
    · exact decide_eq_true (List.le_trans (of_decide_eq_true h1) (of_decide_eq_true h2))
    · rcases List.le_total a b with h | h
      · simp [h]
      · simp [h]
  have hp : (sortB l).Pairwise fun a b => ¬ lt b a := by
    unfold sortB
    rw [List.pairwise_map]
    refine hs.imp ?_
    intro x y hxy
    rw [lt_data]
    have := (le_of_less x y).1 (of_decide_eq_true hxy)
    show ¬ Op.bytesLess y x = true
    rw [this]; simp
  have := hp.and hn
  refine this.imp ?_
  rintro a b ⟨h1, h2⟩
  rcases lt_or a b with g | g | g
  · exact g
  · exact absurd g h2
  · exact absurd g h1
theorem rises_nodup {l : List ByteArray} (h : rises l) : l.Nodup := by
  refine List.Pairwise.imp ?_ h
  intro a b hab e
  subst e
  exact lt_irrefl _ hab
theorem rises_ext {l m : List ByteArray} (hl : rises l) (hm : rises m) (h : ∀ x, x ∈ l ↔ x ∈ m) : l = m := by
  have hp : l.Perm m := (List.perm_ext_iff_of_nodup (rises_nodup hl) (rises_nodup hm)).2 h
  exact List.Perm.eq_of_pairwise (le := lt) (fun a b _ _ h1 h2 => absurd (lt_trans h1 h2) (lt_irrefl a)) hl hm hp
def wit (l : List ByteArray) (x : ByteArray) : List ByteArray := if x ∈ l then l else ins l x
theorem mem_ins_iff (l : List ByteArray) (x y : ByteArray) : y ∈ ins l x ↔ y = x ∨ y ∈ l := by
  unfold ins
  conv => rhs; rw [← List.take_append_drop (cnt l x) l]
  rw [List.mem_append, List.mem_cons, List.mem_append]
  constructor
  · rintro (h | h | h)
    · exact .inr (.inl h)
    · exact .inl h
    · exact .inr (.inr h)
  · rintro (h | h | h)
    · exact .inr (.inl h)
    · exact .inl h
    · exact .inr (.inr h)
theorem wit_rises {l : List ByteArray} (hl : rises l) (x : ByteArray) : rises (wit l x) := by
  unfold wit
  split
  · exact hl
  · rename_i h; exact ins_rises hl h
theorem mem_wit (l : List ByteArray) (x y : ByteArray) : y ∈ wit l x ↔ y = x ∨ y ∈ l := by
  unfold wit
  split
  · rename_i h
    exact ⟨.inr, fun g => g.elim (fun e => e ▸ h) id⟩
  · exact mem_ins_iff l x y
theorem wit_length (l : List ByteArray) (x : ByteArray) : (wit l x).length ≤ l.length + 1 := by
  unfold wit
  split
  · omega
  · rw [ins_length]; omega
theorem foldl_wit {l : List ByteArray} (hl : rises l) (m : List ByteArray) : rises (m.foldl wit l) ∧ ∀ y, y ∈ m.foldl wit l ↔ y ∈ l ∨ y ∈ m := by
  induction m generalizing l with
  | nil => exact ⟨hl, fun y => by simp⟩
  | cons x m ih =>
    obtain ⟨h1, h2⟩ := ih (wit_rises hl x)
    refine ⟨h1, fun y => ?_⟩
    rw [List.foldl_cons, h2, mem_wit, List.mem_cons]
    constructor
    · rintro ((h | h) | h)
      · exact .inr (.inl h)
      · exact .inl h
      · exact .inr (.inr h)
    · rintro (h | h | h)
      · exact .inl (.inr h)
      · exact .inl (.inl h)
      · exact .inr h
variable {P : Program} {ρ : Ren}
/-- slices.Sort, in the print's words for a function that writes into its argument's row. -/
theorem sort_any (L : Lays.n190 P ρ) (e : TypeId) (P0_ : Nat → Prop) (u : Value) (l0 : List ByteArray) (w0 w : World) (hB : Below w0.heap.size w0 w) (ho0 : Kd.R Kd.string e w w0.heap.size P0_ u l0) (hsz : l0.length < 4611686018427387904) :
    Calls P (ρ.f 190) #[u] w fun e_ w' => e_ = .returned (.tuple #[]) ∧ Kd.R Kd.string e w' w0.heap.size (fun k_ => (P0_ k_ ∨ w.heap.size ≤ k_)) u (sortB l0) ∧ Below w0.heap.size w0 w' ∧ Kept w w' (fun k_ => P0_ k_) := by
  have ho := row_out ho0
  rcases ho.2 with ⟨rfl, h0⟩ | ⟨g, cap, cur, rfl, hg, hh, hn, hcm, hcs, ht⟩
  · obtain rfl : l0 = [] := List.eq_nil_of_length_eq_zero h0
    refine (Any.slices_Sort_string_none L none 0 w).mono ?_
    rintro e_ w' ⟨rfl, rfl⟩
    have hn : sortB [] = [] := by unfold sortB; simp
    rw [hn]
    exact ⟨rfl, Kd.R_nil _ _ _ _ _, hB, Kept.refl _ _⟩
  · rw [Nat.mul_one] at hcs ht
    have hz : (l0.map fun x => x.data.toList).length = l0.length := List.length_map _
    have he : strs l0 = (l0.map fun x => x.data.toList).map encStr := by
      unfold strs
      rw [List.map_map]
      apply List.map_congr_left
      intro x _
      simp [encStr]
    have hgl := (Array.getElem?_eq_some_iff.1 hh).1
    have hH := holds_of_block (ss := l0.map fun x => x.data.toList) hh (by rw [hz, ht, he])
    have hS := Any.slices_Sort_string L g 0 cap (l0.map fun x => x.data.toList) w hH hgl (by rw [hz]; exact hsz)
    rw [hz] at hS
    refine hS.mono ?_
    rintro e_ w' ⟨rfl, n, os, rfl⟩
    have hlen : ((l0.map fun x => x.data.toList).mergeSort fun x y => decide (x ≤ y)).length = (l0.map fun x => x.data.toList).length := List.length_mergeSort _
    have hro := ownsRow_sorted (n := n) (os := os) (w := w) (ss := l0.map fun x => x.data.toList) hlen hg hh (by rw [hz]; exact hn) hcm (by rw [Nat.mul_one]; exact hcs)
    have hgr := grownBy_sorted (w := w) (g := g) (n := n) (os := os) ((l0.map fun x => x.data.toList).mergeSort fun x y => decide (x ≤ y)).toArray
    have hstr : ((l0.map fun x => x.data.toList).mergeSort fun x y => decide (x ≤ y)).map encStr = strs (sortB l0) := by
      unfold sortB strs
      rw [List.map_map]; rfl
    have hsl : (sortB l0).length = l0.length := (sortB_perm l0).length_eq
    rw [hstr, hz, ← hsl] at hro
    have hr := row_in hro
    rw [hsl] at hr
    have hp : P0_ g := ho0.1 g (by simp [Value.ownBlock])
    refine ⟨rfl, ⟨fun k hk => ?_, hr.2.imp_ (fun _ _ hp => hp)⟩, hB.grown hgr hB.size (fun k hk => by cases hk; exact hg), ⟨hgr.size, fun i hi hn => hgr.block i hi (fun e => by cases e; exact hn hp)⟩⟩
    have : g = k := by simpa [Value.ownBlock] using hk
    subst this
    exact .inl hp
end Go.Proofs.YtccekjebfafgcaaDoor.M
