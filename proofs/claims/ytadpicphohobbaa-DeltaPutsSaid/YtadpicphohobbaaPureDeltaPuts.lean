/- The law DeltaPuts: any pieces' bytes, and what they make of any base, are the document's, or both tell why not. No further condition. -/
import Derived.Test.YtadpicphohobbaaEDeltaPutsx8
namespace Go.Proofs.Ytadpicphohobbaa.Pure
open Go.RowKit Go.Proofs.Ytadpicphohobbaa.EDeltaPuts Go.Proofs.YtadpicphohobbaaW.PrintWords Go.Proofs.YtadpicphohobbaaW.PrintLast Go.Proofs.YtadpicphohobbaaW.PrintMore
theorem awake_row : delta_Pieces.f (⟨#[97, 98, 99, 100, 101, 102, 103, 104, 105, 106]⟩ : ByteArray) (⟨#[97, 98, 99, 100, 101, 102, 103, 104, 88]⟩ : ByteArray) = some [(⟨true, 0, 8, (⟨#[]⟩ : ByteArray)⟩ : S34), (⟨false, 0, 1, (⟨#[88]⟩ : ByteArray)⟩ : S34)] := by kernel_rfl
theorem awake : pleachlaw11_awake.f = some true := by
  unfold pleachlaw11_awake.f
  rw [awake_row, Option.bind_some, pleachref11_Same.f, if_pos (by decide), pleachref11_Same.eq_self]; rfl
theorem loop (base : ByteArray) (l : List S34) (hb : base.size ≤ 1000) (hl : l.length ≤ 60) (d : Nat) : ∀ i : Nat, i + d = l.length → pleachlaw11_DeltaPuts.l0 (d + 1) base l l (l.length : Int) (i : Int) = some true := by
  have haw : (pleachlaw11_awake.f.bind fun t => some t) = some true := by rw [awake]; rfl
  induction d with
  | zero =>
    intro i hi
    have p1 : delta_Put.f l = some (match M.dput (l.map delta_Put.pc) with | some b => (M.sb b, 0) | none => (⟨#[]⟩, 2)) := by unfold delta_Put.f; exact if_pos (by omega)
    have p2 : pleachref11_Put.f l = some (match M.dput (l.map delta_Put.pc) with | some b => (M.sb b, true) | none => (⟨#[]⟩, false)) := by unfold pleachref11_Put.f; exact if_pos (by omega)
    have j1 : delta_Join.f base l = some (M.sb (M.djoin base [] (l.map delta_Join.pc)).1, (M.djoin base [] (l.map delta_Join.pc)).2) := by unfold delta_Join.f; exact if_pos ⟨by omega, by omega⟩
    have j2 : pleachref11_Join.f base l = some (M.sb (M.djoin base [] (l.map delta_Join.pc)).1, (M.djoin base [] (l.map delta_Join.pc)).2) := by unfold pleachref11_Join.f; exact if_pos ⟨by omega, by omega⟩
    rw [pleachlaw11_DeltaPuts.l0, if_neg (by omega), p1, p2, j1, j2]
    cases M.dput (l.map delta_Put.pc) with
    | none => simp only [Option.bind_some, haw]; simp
    | some b => simp only [Option.bind_some, haw]; simp
  | succ d ih =>
    intro i hi
    have hlt : i < l.length := by omega
    rw [pleachlaw11_DeltaPuts.l0, if_pos (by omega), if_pos (by omega), if_pos (by omega), delta_Check.f, Option.bind_some, pleachref11_Is.f, Option.bind_some]
    have e : ∀ b : Bool, (((if b = true then (0 : Int) else 2) == 0) != b) = false := by intro b; cases b <;> rfl
    rw [e, if_neg (by simp), M.wrap64_id (i := (i : Int) + 1) (by omega) (by omega), show (i : Int) + 1 = ((i + 1 : Nat) : Int) from by omega]
    exact ih (i + 1) (by omega)
theorem DeltaPuts : pleachlaw11_DeltaPuts.Pure := by
  intro base l _ _
  have haw : (pleachlaw11_awake.f.bind fun t => some t) = some true := by rw [awake]; rfl
  refine ⟨l.length + 1 + 1, ?_⟩
  unfold pleachlaw11_DeltaPuts.f
  by_cases h1 : (base.size : Int) > 1000
  · rw [if_pos h1, pleachlaw11_DeltaPuts.j0, if_pos rfl, haw]
  · rw [if_neg h1]
    unfold pleachlaw11_few.f
    rw [Option.bind_some, pleachlaw11_DeltaPuts.j0]
    cases hf : (decide (l.length ≤ 60) && decide (pleachlaw11_few.sum_ (l.take 61) ≤ 10000)) with
    | false => rw [if_pos (by rfl), haw]
    | true =>
      rw [if_neg (by simp)]
      simp only [Bool.and_eq_true, decide_eq_true_eq] at hf
      exact loop base l (by omega) hf.1 l.length 0 (by omega)
end Go.Proofs.Ytadpicphohobbaa.Pure
