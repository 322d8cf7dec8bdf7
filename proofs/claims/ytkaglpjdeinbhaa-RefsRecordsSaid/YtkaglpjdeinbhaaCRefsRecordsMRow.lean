/- Rows of texts of the call's own, and the library's Clone, Insert, Delete over them: one contract each, over any program (the shelf's contracts joined). -/
import Derived.Shelf.Slices.Clone
import Derived.Shelf.Slices.Delete
import Derived.Shelf.Spec.SlicesInsert
import Derived.Shelf.Spec.SlicesInsertGrow
import Derived.Sort.OwnSorted
import Derived.Test.YtkaglpjdeinbhaaCRefsRecordsWWords
namespace Go.Proofs.Ytkaglpjdeinbhaa.M
open Go.RowKit Go.Shelf Go.Sort Go.Proofs Go.Proofs.YtkaglpjdeinbhaaW.PrintWords
variable {P : Program} {ρ : Ren}

def strs (xs : List ByteArray) : List Value := xs.map Value.string
theorem strs_length (xs : List ByteArray) : (strs xs).length = xs.length := List.length_map _
/-- The two words for a row of texts of the call's own. -/
theorem row_in {w : World} {B : Nat} {e : TypeId} {v : Value} {xs : List ByteArray} (h : w.ownsRow B e 1 v xs.length (strs xs)) : Kd.R Kd.string e w B (fun _ => True) v xs := by
  refine ⟨fun _ _ => trivial, strs xs, h, by rw [strs_length]; exact (Nat.mul_one _).symm, fun j p hp => ?_⟩
  have hj : j < xs.length := (List.getElem?_eq_some_iff.1 hp).1
  have : (List.drop (j * 1) (strs xs)).take 1 = [Value.string p] := by
    rw [Nat.mul_one, List.take_one, List.head?_drop]
    unfold strs
    rw [List.getElem?_map, hp]; rfl
  exact this
theorem row_out {w : World} {B : Nat} {e : TypeId} {ok : Nat → Prop} {v : Value} {xs : List ByteArray} (h : Kd.R Kd.string e w B ok v xs) : w.ownsRow B e 1 v xs.length (strs xs) := by
  obtain ⟨_, inner, ho, hl, hr⟩ := h
  have : inner = strs xs := by
    apply List.ext_getElem?
    intro j
    have hl' : inner.length = xs.length := by rw [hl]; exact Nat.mul_one _
    unfold strs
    rw [List.getElem?_map]
    rcases Nat.lt_or_ge j xs.length with hj | hj
    · have h1 : (List.drop (j * 1) inner).take 1 = [Value.string xs[j]] := hr j _ (List.getElem?_eq_getElem hj)
      rw [Nat.mul_one, List.take_one, List.head?_drop, List.getElem?_eq_getElem (by omega)] at h1
      rw [List.getElem?_eq_getElem (by omega), List.getElem?_eq_getElem hj]
      simpa using h1
    · rw [List.getElem?_eq_none (by omega), List.getElem?_eq_none hj]; rfl
  rw [this] at ho
  exact ho
theorem reads_n {α : Type} {R : α → List Value → Prop} {sz m n : Nat} {w : World} {A : Option Addr} {xs : List α} (h : ReadsRow R sz w A m xs) (e : m = n) : ReadsRow R sz w A n xs := e ▸ h
/-- A row that is read, whoever made it. -/
def Seen {α : Type} (d : Kd α) (w : World) (v : Value) (xs : List α) : Prop := ∃ A c, v = .slice A xs.length c ∧ xs.length ≤ c ∧ d.C w A xs.length xs
section
variable {α : Type} {d : Kd α} {w w1 : World} {v : Value} {xs : List α}
theorem seen_own {e base : Nat} {ok : Nat → Prop} (h : d.R e w base ok v xs) : Seen d w v xs := Kd.R_reads h
end
end Go.Proofs.Ytkaglpjdeinbhaa.M
