/- Rows of texts of the call's own, and the library's Clone, Insert, Delete over them: one contract each, over any program (the shelf's contracts joined). -/
import Derived.Shelf.Slices.Clone
import Derived.Shelf.Slices.Delete
import Derived.Shelf.Spec.SlicesInsert
import Derived.Shelf.Spec.SlicesInsertGrow
import Derived.Sort.OwnSorted
import Derived.Test.YtccekjebfafgcaaDoorCShelfApartWWords
namespace Go.Proofs.YtccekjebfafgcaaDoor.M
open Go.RowKit Go.Shelf Go.Sort Go.Proofs Go.Proofs.YtccekjebfafgcaaDoorW.PrintWords
variable {P : Program} {ρ : Ren}

def strs (xs : List ByteArray) : List Value := xs.map Value.string
theorem strs_length (xs : List ByteArray) : (strs xs).length = xs.length := List.length_map _
theorem clone_any (L : Lays2.n16 P ρ) (A : Option Addr) (c : Nat) (xs : List ByteArray) (w : World) (hr : Kd.C Kd.string w A xs.length xs) (hbig : xs.length * 16 ≤ 140737488355328) :
    Calls P (ρ.f 16) #[.slice A xs.length c] w fun e w' => ∃ v', e = .returned v' ∧ w'.ownsRow w.heap.size (ρ.t 9) 1 v' xs.length (strs xs) ∧ Below w.heap.size w w' := by
  rcases A with _ | a
  · have h0 : xs = [] := by
      rcases Nat.eq_zero_or_pos xs.length with h | h
      · exact List.eq_nil_of_length_eq_zero h
      · obtain ⟨ad, h', _⟩ := hr.2.2 h
        cases h'
    subst h0
    refine (Any.slices_Clone_string_nil L 0 c w).mono ?_
    rintro e w' ⟨rfl, rfl⟩
    exact ⟨_, rfl, own_nil _ _ _ _, Below.refl _ _⟩
  · rcases Nat.eq_zero_or_pos xs.length with h | h
    · obtain rfl : xs = [] := List.eq_nil_of_length_eq_zero h
      refine (Any.slices_Clone_string_zero L a c w).mono ?_
      rintro e w' ⟨v', rfl, ho, _, hb⟩
      exact ⟨_, rfl, ho, hb⟩
    · obtain ⟨ad, h', hc⟩ := hr.2.2 h
      cases h'
      have hcell : ∀ j (hj : j < xs.length), w.cell? (a.add j) = some (.string xs[j]) := by
        intro j hj
        obtain ⟨c, h1, h2, h3⟩ := hc j _ (List.getElem?_eq_getElem hj)
        have h2' : c = [Value.string xs[j]] := h2
        have := h3 0 _ (by rw [h2']; rfl)
        simpa [Kd.string, Kd.scalar] using this
      have hsp : a.spot = none := by
        have := hcell 0 h
        cases hs : a.spot with
        | none => rfl
        | some q => exact absurd this (by unfold World.cell? Addr.add; simp only [hs, Option.isSome_some, if_true]; split <;> simp)
      obtain ⟨b, off, sp⟩ := a
      cases hsp
      have hx : (xs.take xs.length).map Value.string = strs xs := by rw [List.take_length]; rfl
      refine (Any.slices_Clone_string L b off xs.length c xs w (Nat.le_refl _) hbig (fun j hj => ?_)).mono ?_
      · have := hcell j hj
        rw [show xs.getD j ByteArray.empty = xs[j] by simp [hj]]
        have e : (⟨b, off, none⟩ : Addr).add j = ⟨b, off + j, none⟩ := by unfold Addr.add; split <;> simp_all
        rw [e] at this; exact this
      · rintro e w' ⟨v', rfl, ho, _, hb⟩
        rw [hx] at ho
        exact ⟨_, rfl, ho, hb⟩
/-- The two words for a row of texts of the call's own. -/
theorem row_in {w : World} {B : Nat} {e : TypeId} {v : Value} {xs : List ByteArray} (h : w.ownsRow B e 1 v xs.length (strs xs)) : Kd.R Kd.string e w B (fun _ => True) v xs := by
  refine ⟨fun _ _ => trivial, strs xs, h, by rw [strs_length]; exact (Nat.mul_one _).symm, fun j p hp => ?_⟩
  have hj : j < xs.length := (List.getElem?_eq_some_iff.1 hp).1
  have : (List.drop (j * 1) (strs xs)).take 1 = [Value.string p] := by
    rw [Nat.mul_one, List.take_one, List.head?_drop]
    unfold strs
    rw [List.getElem?_map, hp]; rfl
  exact this
theorem row_out {w : World} {B : Nat} {e : TypeId} {ok : Nat → Prop} {v : Value} {xs : List ByteArray} (h : Kd.R Kd.string e w B ok v xs) : w.ownsRow B e 1 v xs.length (strs xs) := by
  obtain ⟨_, inner, ho, hl, hr⟩ := h
  have : inner = strs xs := by
    apply List.ext_getElem?
    intro j
    have hl' : inner.length = xs.length := by rw [hl]; exact Nat.mul_one _
    unfold strs
    rw [List.getElem?_map]
    rcases Nat.lt_or_ge j xs.length with hj | hj
    · have h1 : (List.drop (j * 1) inner).take 1 = [Value.string xs[j]] := hr j _ (List.getElem?_eq_getElem hj)
      rw [Nat.mul_one, List.take_one, List.head?_drop, List.getElem?_eq_getElem (by omega)] at h1
      rw [List.getElem?_eq_getElem (by omega), List.getElem?_eq_getElem hj]
      simpa using h1
    · rw [List.getElem?_eq_none (by omega), List.getElem?_eq_none hj]; rfl
  rw [this] at ho
  exact ho
theorem reads_n {α : Type} {R : α → List Value → Prop} {sz m n : Nat} {w : World} {A : Option Addr} {xs : List α} (h : ReadsRow R sz w A m xs) (e : m = n) : ReadsRow R sz w A n xs := e ▸ h
/-- A row that is read, whoever made it. -/
def Seen {α : Type} (d : Kd α) (w : World) (v : Value) (xs : List α) : Prop := ∃ A c, v = .slice A xs.length c ∧ xs.length ≤ c ∧ d.C w A xs.length xs
section
variable {α : Type} {d : Kd α} {w w1 : World} {v : Value} {xs : List α}
theorem seen_own {e base : Nat} {ok : Nat → Prop} (h : d.R e w base ok v xs) : Seen d w v xs := Kd.R_reads h
end
end Go.Proofs.YtccekjebfafgcaaDoor.M
