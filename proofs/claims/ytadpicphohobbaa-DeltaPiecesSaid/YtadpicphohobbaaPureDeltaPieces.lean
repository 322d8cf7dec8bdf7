/- The law DeltaPieces: any text's pieces of any base, and their bytes, are the document's. No further condition. -/
import Derived.Test.YtadpicphohobbaaEDeltaPiecesx8
namespace Go.Proofs.Ytadpicphohobbaa.Pure
open Go.RowKit Go.Proofs.Ytadpicphohobbaa.EDeltaPieces Go.Proofs.YtadpicphohobbaaW.PrintWords Go.Proofs.YtadpicphohobbaaW.PrintLast Go.Proofs.YtadpicphohobbaaW.PrintMore
theorem awake_row : delta_Pieces.f (⟨#[97, 98, 99, 100, 101, 102, 103, 104, 105, 106]⟩ : ByteArray) (⟨#[97, 98, 99, 100, 101, 102, 103, 104, 88]⟩ : ByteArray) = some [(⟨true, 0, 8, (⟨#[]⟩ : ByteArray)⟩ : S34), (⟨false, 0, 1, (⟨#[88]⟩ : ByteArray)⟩ : S34)] := by kernel_rfl
theorem awake : pleachlaw11_awake.f = some true := by
  unfold pleachlaw11_awake.f
  rw [awake_row, Option.bind_some, pleachref11_Same.f, if_pos (by decide), pleachref11_Same.eq_self]; rfl
def pc (x : S34) : M.Pc := (x.f0, x.f1, x.f2, x.f3)
/-- What the pieces are: they may be, they are not many, and they make the text. -/
theorem go_ok (base text : ByteArray) (hb : base.size ≤ 65536) (ht : text.size ≤ 65536) (f : Nat) : ∀ (i own : Nat) (out : List S34), own ≤ i → i ≤ text.size → text.size - i < f →
    ∃ rest, delta_Pieces.go base text f i own out = some (out ++ rest) ∧ (∀ x ∈ rest, M.pk (pc x) = true) ∧ rest.length ≤ text.size - own ∧ M.djoin base ((M.bs text).take own) (rest.map pc) = (M.bs text, 0) := by
  have own_ok : ∀ (own i : Nat) (rest : List S34), own ≤ i → i ≤ text.size → (∀ x ∈ rest, M.pk (pc x) = true) → rest.length ≤ text.size - i → M.djoin base ((M.bs text).take i) (rest.map pc) = (M.bs text, 0) →
      (∀ x ∈ delta_Pieces.own_ text own i ++ rest, M.pk (pc x) = true) ∧ (delta_Pieces.own_ text own i ++ rest).length ≤ text.size - own ∧ M.djoin base ((M.bs text).take own) ((delta_Pieces.own_ text own i ++ rest).map pc) = (M.bs text, 0) := by
    intro own i rest h1 h2 g1 g2 g4
    unfold delta_Pieces.own_
    by_cases e : own < i
    · rw [if_pos e]
      have hsz : (text.extract own i).size = i - own := by rw [ByteArray.size_extract]; omega
      have hk : M.pk (pc ⟨false, 0, (i : Int) - (own : Int), text.extract own i⟩) = true := M.pok_own_mk (n := (i : Int) - (own : Int)) (o := text.extract own i) (by omega) (by omega) (by rw [hsz]; omega)
      refine ⟨fun x hx => ?_, by simp only [List.singleton_append, List.length_cons]; omega, ?_⟩
      · rcases List.mem_append.1 hx with hx | hx
        · rw [List.mem_singleton.1 hx]; exact hk
        · exact g1 x hx
      · show M.djoin base _ (pc ⟨false, 0, (i : Int) - (own : Int), text.extract own i⟩ :: rest.map pc) = _
        rw [M.djoin, if_pos hk]
        show (if ((((M.bs text).take own).length : Int) + ((i : Int) - (own : Int)) > 65536) then _ else if false = true then _ else M.djoin base ((M.bs text).take own ++ M.bs (text.extract own i)) (rest.map pc)) = _
        rw [if_neg (by rw [List.length_take, M.bs_length]; omega), if_neg (by simp), M.bs_extract, ← g4]
        congr 1
        rw [show i = own + (i - own) from by omega, List.take_add, Nat.add_sub_cancel_left]
    · obtain rfl : own = i := by omega
      rw [if_neg e, List.nil_append]
      exact ⟨g1, g2, g4⟩
  induction f with
  | zero => intro i own out _ _ h; omega
  | succ f ih =>
    intro i own out h1 h2 h3
    rw [delta_Pieces.go]
    by_cases hi : i + 8 ≤ text.size
    · rw [if_pos hi]
      cases ha : delta_index.at_ base (text.extract i (i + 8)).data.toList (base.size - 7) with
      | none => exact ih (i + 1) own out (by omega) (by omega) (by omega)
      | some j =>
        simp only
        obtain ⟨hj, hn8⟩ := delta_Pieces.met ha hi
        have hle := M.alike_le ((M.bs base).drop j) ((M.bs text).drop i)
        have htk := M.alike_take ((M.bs base).drop j) ((M.bs text).drop i)
        rw [List.length_drop, List.length_drop, M.bs_length, M.bs_length] at hle
        generalize M.alike ((M.bs base).drop j) ((M.bs text).drop i) = n at hn8 hle htk ⊢
        obtain ⟨rest, r1, r2, r3, r5⟩ := ih (i + n) (i + n) (out ++ delta_Pieces.own_ text own i ++ [⟨true, (j : Int), (n : Int), ⟨#[]⟩⟩]) (Nat.le_refl _) (by omega) (by omega)
        have hk : M.pk (pc ⟨true, (j : Int), (n : Int), ⟨#[]⟩⟩) = true := M.pok_copy_mk (n := (n : Int)) (a := (j : Int)) (by omega) (by omega) (by omega) (by omega)
        refine ⟨delta_Pieces.own_ text own i ++ (⟨true, (j : Int), (n : Int), ⟨#[]⟩⟩ :: rest), by rw [r1]; simp only [List.append_assoc, List.cons_append, List.nil_append], ?_⟩
        refine own_ok own i _ h1 h2 (fun x hx => ?_) (by simp only [List.length_cons]; omega) ?_
        · rcases List.mem_cons.1 hx with rfl | hx
          · exact hk
          · exact r2 x hx
        · show M.djoin base _ (pc ⟨true, (j : Int), (n : Int), ⟨#[]⟩⟩ :: rest.map pc) = _
          rw [M.djoin, if_pos hk]
          show (if ((((M.bs text).take i).length : Int) + (n : Int) > 65536) then _ else if true = true then (if (j : Int) + (n : Int) > (base.size : Int) then _ else M.djoin base ((M.bs text).take i ++ ((M.bs base).drop ((j : Int)).toNat).take ((n : Int)).toNat) (rest.map pc)) else _) = _
          rw [if_neg (by rw [List.length_take, M.bs_length]; omega), if_pos rfl, if_neg (by omega), Int.toNat_natCast, Int.toNat_natCast, htk, ← r5, List.take_add]
    · rw [if_neg hi]
      refine ⟨delta_Pieces.own_ text own text.size, rfl, ?_⟩
      have := own_ok own text.size [] (by omega) (Nat.le_refl _) (fun x hx => by cases hx) (by simp) (by rw [List.map_nil, M.djoin, List.take_of_length_le (by rw [M.bs_length]; omega)])
      rw [List.append_nil] at this
      exact this
theorem row_ok (base text : ByteArray) (hb : base.size ≤ 65536) (ht : text.size ≤ 65536) :
    ∃ r, delta_Pieces.f base text = some r ∧ (∀ x ∈ r, M.pk (pc x) = true) ∧ r.length ≤ text.size ∧ M.djoin base [] (r.map pc) = (M.bs text, 0) := by
  obtain ⟨rest, h1, h2, h3, h5⟩ := go_ok base text hb ht (text.size + 1) 0 0 [] (Nat.le_refl _) (Nat.zero_le _) (by omega)
  refine ⟨rest, ?_, h2, by omega, by simpa using h5⟩
  unfold delta_Pieces.f
  rw [if_pos (by omega), h1]; rfl
theorem put_of (r : List S34) (hl : r.length ≤ 1000000000) : delta_Put.f r = some (match M.dput (r.map pc) with | some b => (M.sb b, 0) | none => (⟨#[]⟩, 2)) := by
  unfold delta_Put.f
  exact if_pos hl
theorem DeltaPieces : pleachlaw11_DeltaPieces.Pure := by
  intro base text _ _
  refine ⟨0 + 1, ?_⟩
  unfold pleachlaw11_DeltaPieces.f
  have haw : (pleachlaw11_awake.f.bind fun t => some t) = some true := by rw [awake]; rfl
  by_cases h1 : (base.size : Int) > 400
  · rw [if_pos h1, pleachlaw11_DeltaPieces.j0, if_pos rfl, haw]
  · rw [if_neg h1, pleachlaw11_DeltaPieces.j0]
    by_cases h2 : (text.size : Int) > 400
    · rw [if_pos (decide_eq_true h2), haw]
    · rw [if_neg (by simp; omega)]
      obtain ⟨r, e1, e2, e3, _⟩ := row_ok base text (by omega) (by omega)
      obtain ⟨b, hb⟩ := M.dput_some (l := r.map pc) (fun p hp => by obtain ⟨x, hx, rfl⟩ := List.mem_map.1 hp; exact e2 x hx)
      have p1 : delta_Put.f r = some (M.sb b, 0) := by rw [put_of r (by omega), hb]
      have p2 : pleachref11_Put.f r = some (M.sb b, true) := by
        unfold pleachref11_Put.f
        rw [if_pos (by omega)]
        show some (match M.dput (r.map pc) with | some b => (M.sb b, true) | none => (⟨#[]⟩, false)) = _
        rw [hb]
      have p3 : delta_Encode.f base text = some (M.sb b, 0) := by
        unfold delta_Encode.f
        rw [if_pos (by omega), e1, Option.bind_some, p1]
      rw [pleachref11_Pieces.f, e1, Option.bind_some, p2, Option.bind_some, p3, Option.bind_some, Option.bind_some, pleachref11_Same.f, if_pos (by omega), pleachref11_Same.eq_self, Option.bind_some, if_pos rfl, if_pos rfl, if_pos rfl, haw]
end Go.Proofs.Ytadpicphohobbaa.Pure
