/- The law DeltaBack: a text comes back from the pieces that it is of any base; pieces come back from their bytes. No further condition. -/
import Derived.Test.YtadpicphohobbaaEDeltaBackx7
namespace Go.Proofs.Ytadpicphohobbaa.Pure
open Go.RowKit Go.Proofs.Ytadpicphohobbaa.EDeltaBack Go.Proofs.YtadpicphohobbaaW.PrintWords Go.Proofs.YtadpicphohobbaaW.PrintLast Go.Proofs.YtadpicphohobbaaW.PrintMore
theorem awake_row : delta_Pieces.f (⟨#[97, 98, 99, 100, 101, 102, 103, 104, 105, 106]⟩ : ByteArray) (⟨#[97, 98, 99, 100, 101, 102, 103, 104, 88]⟩ : ByteArray) = some [(⟨true, 0, 8, (⟨#[]⟩ : ByteArray)⟩ : S34), (⟨false, 0, 1, (⟨#[88]⟩ : ByteArray)⟩ : S34)] := by kernel_rfl
theorem awake : pleachlaw11_awake.f = some true := by
  unfold pleachlaw11_awake.f
  rw [awake_row, Option.bind_some, pleachref11_Same.f, if_pos (by decide), pleachref11_Same.eq_self]; rfl
def pc (x : S34) : M.Pc := (x.f0, x.f1, x.f2, x.f3)
/-- What the pieces are: they may be, they are not many, and they make the text. -/
theorem go_ok (base text : ByteArray) (hb : base.size ≤ 65536) (ht : text.size ≤ 65536) (f : Nat) : ∀ (i own : Nat) (out : List S34), own ≤ i → i ≤ text.size → text.size - i < f →
    ∃ rest, delta_Pieces.go base text f i own out = some (out ++ rest) ∧ (∀ x ∈ rest, M.pk (pc x) = true) ∧ rest.length ≤ text.size - own ∧ M.djoin base ((M.bs text).take own) (rest.map pc) = (M.bs text, 0) := by
  have own_ok : ∀ (own i : Nat) (rest : List S34), own ≤ i → i ≤ text.size → (∀ x ∈ rest, M.pk (pc x) = true) → rest.length ≤ text.size - i → M.djoin base ((M.bs text).take i) (rest.map pc) = (M.bs text, 0) →
      (∀ x ∈ delta_Pieces.own_ text own i ++ rest, M.pk (pc x) = true) ∧ (delta_Pieces.own_ text own i ++ rest).length ≤ text.size - own ∧ M.djoin base ((M.bs text).take own) ((delta_Pieces.own_ text own i ++ rest).map pc) = (M.bs text, 0) := by
    intro own i rest h1 h2 g1 g2 g4
    unfold delta_Pieces.own_
    by_cases e : own < i
    · rw [if_pos e]
      have hsz : (text.extract own i).size = i - own := by rw [ByteArray.size_extract]; omega
      have hk : M.pk (pc ⟨false, 0, (i : Int) - (own : Int), text.extract own i⟩) = true := M.pok_own_mk (n := (i : Int) - (own : Int)) (o := text.extract own i) (by omega) (by omega) (by rw [hsz]; omega)
      refine ⟨fun x hx => ?_, by simp only [List.singleton_append, List.length_cons]; omega, ?_⟩
      · rcases List.mem_append.1 hx with hx | hx
        · rw [List.mem_singleton.1 hx]; exact hk
        · exact g1 x hx
      · show M.djoin base _ (pc ⟨false, 0, (i : Int) - (own : Int), text.extract own i⟩ :: rest.map pc) = _
        rw [M.djoin, if_pos hk]
        show (if ((((M.bs text).take own).length : Int) + ((i : Int) - (own : Int)) > 65536) then _ else if false = true then _ else M.djoin base ((M.bs text).take own ++ M.bs (text.extract own i)) (rest.map pc)) = _
        rw [if_neg (by rw [List.length_take, M.bs_length]; omega), if_neg (by simp), M.bs_extract, ← g4]
        congr 1
        rw [show i = own + (i - own) from by omega, List.take_add, Nat.add_sub_cancel_left]
    · obtain rfl : own = i := by omega
      rw [if_neg e, List.nil_append]
      exact ⟨g1, g2, g4⟩
  induction f with
  | zero => intro i own out _ _ h; omega
  | succ f ih =>
    intro i own out h1 h2 h3
    rw [delta_Pieces.go]
    by_cases hi : i + 8 ≤ text.size
    · rw [if_pos hi]
      cases ha : delta_index.at_ base (text.extract i (i + 8)).data.toList (base.size - 7) with
      | none => exact ih (i + 1) own out (by omega) (by omega) (by omega)
      | some j =>
        simp only
        obtain ⟨hj, hn8⟩ := delta_Pieces.met ha hi
        have hle := M.alike_le ((M.bs base).drop j) ((M.bs text).drop i)
        have htk := M.alike_take ((M.bs base).drop j) ((M.bs text).drop i)
        rw [List.length_drop, List.length_drop, M.bs_length, M.bs_length] at hle
        generalize M.alike ((M.bs base).drop j) ((M.bs text).drop i) = n at hn8 hle htk ⊢
        obtain ⟨rest, r1, r2, r3, r5⟩ := ih (i + n) (i + n) (out ++ delta_Pieces.own_ text own i ++ [⟨true, (j : Int), (n : Int), ⟨#[]⟩⟩]) (Nat.le_refl _) (by omega) (by omega)
        have hk : M.pk (pc ⟨true, (j : Int), (n : Int), ⟨#[]⟩⟩) = true := M.pok_copy_mk (n := (n : Int)) (a := (j : Int)) (by omega) (by omega) (by omega) (by omega)
        refine ⟨delta_Pieces.own_ text own i ++ (⟨true, (j : Int), (n : Int), ⟨#[]⟩⟩ :: rest), by rw [r1]; simp only [List.append_assoc, List.cons_append, List.nil_append], ?_⟩
        refine own_ok own i _ h1 h2 (fun x hx => ?_) (by simp only [List.length_cons]; omega) ?_
        · rcases List.mem_cons.1 hx with rfl | hx
          · exact hk
          · exact r2 x hx
        · show M.djoin base _ (pc ⟨true, (j : Int), (n : Int), ⟨#[]⟩⟩ :: rest.map pc) = _
          rw [M.djoin, if_pos hk]
          show (if ((((M.bs text).take i).length : Int) + (n : Int) > 65536) then _ else if true = true then (if (j : Int) + (n : Int) > (base.size : Int) then _ else M.djoin base ((M.bs text).take i ++ ((M.bs base).drop ((j : Int)).toNat).take ((n : Int)).toNat) (rest.map pc)) else _) = _
          rw [if_neg (by rw [List.length_take, M.bs_length]; omega), if_pos rfl, if_neg (by omega), Int.toNat_natCast, Int.toNat_natCast, htk, ← r5, List.take_add]
    · rw [if_neg hi]
      refine ⟨delta_Pieces.own_ text own text.size, rfl, ?_⟩
      have := own_ok own text.size [] (by omega) (Nat.le_refl _) (fun x hx => by cases hx) (by simp) (by rw [List.map_nil, M.djoin, List.take_of_length_le (by rw [M.bs_length]; omega)])
      rw [List.append_nil] at this
      exact this
theorem row_ok (base text : ByteArray) (hb : base.size ≤ 65536) (ht : text.size ≤ 65536) :
    ∃ r, delta_Pieces.f base text = some r ∧ (∀ x ∈ r, M.pk (pc x) = true) ∧ r.length ≤ text.size ∧ M.djoin base [] (r.map pc) = (M.bs text, 0) := by
  obtain ⟨rest, h1, h2, h3, h5⟩ := go_ok base text hb ht (text.size + 1) 0 0 [] (Nat.le_refl _) (Nat.zero_le _) (by omega)
  refine ⟨rest, ?_, h2, by omega, by simpa using h5⟩
  unfold delta_Pieces.f
  rw [if_pos (by omega), h1]; rfl
theorem put_of (r : List S34) (hl : r.length ≤ 1000000000) : delta_Put.f r = some (match M.dput (r.map pc) with | some b => (M.sb b, 0) | none => (⟨#[]⟩, 2)) := by
  unfold delta_Put.f
  exact if_pos hl
theorem un_pc (l : List S34) : (l.map pc).map delta_Take.un = l := by
  rw [List.map_map]
  have : (delta_Take.un ∘ pc) = id := by funext x; rfl
  rw [this, List.map_id]
theorem take_put (l : List S34) (hl : l.length ≤ 10000) (b : List UInt8) (hb : M.dput (l.map pc) = some b) : delta_Take.f (M.sb b) = some (l, 0) := by
  have hbl := M.dput_len hb
  have hps := M.psum_le (l.map pc)
  rw [List.length_map] at hps
  have hsz : (M.sb b).size = b.length := M.size_sb b
  have hn : l.length ≤ b.length := by
    have h : ∀ (m : List M.Pc) (c : List UInt8), M.dput m = some c → m.length ≤ c.length := by
      intro m
      induction m with
      | nil => intro c _; simp
      | cons p m ih =>
        intro c hc
        have hp := M.dput_all hc p List.mem_cons_self
        rw [M.dput_ok hp] at hc
        obtain ⟨c', hc', rfl⟩ := Option.map_eq_some_iff.1 hc
        have := ih c' hc'
        have hpos : 0 < (M.pput p).length := by
          unfold M.pput; split <;> rw [List.length_append] <;> first | (have := M.vb_pos (2 * p.2.2.1 + 1).toNat; omega) | (have := M.vb_pos (2 * p.2.2.1).toNat; omega)
        simp only [List.length_cons, List.length_append]; omega
    have := h _ _ hb
    rwa [List.length_map] at this
  have hd := M.dtake_here (s := M.sb b) (l.map pc) (p := 0) (b := b) ((M.sb b).size + 1) (Nat.zero_le _) hb (by rw [M.bs_sb, List.drop_zero]) (by rw [List.length_map]; omega)
  unfold delta_Take.f
  rw [if_pos (by omega), show (0 : Int) = ((0 : Nat) : Int) from rfl, hd]
  simp only [delta_Take.res, un_pc, List.nil_append]
  rfl
theorem DeltaBack : pleachlaw11_DeltaBack.Pure := by
  intro base text l _ _ _
  have haw : (pleachlaw11_awake.f.bind fun t => some t) = some true := by rw [awake]; rfl
  refine ⟨0 + 1 + 1, ?_⟩
  unfold pleachlaw11_DeltaBack.f
  by_cases h1 : (base.size : Int) > 3000
  · rw [if_pos h1, pleachlaw11_DeltaBack.j0, if_pos rfl, haw]
  · rw [if_neg h1]
    by_cases h2 : (text.size : Int) > 3000
    · rw [if_pos h2, pleachlaw11_DeltaBack.j0, if_pos rfl, haw]
    · rw [if_neg h2]
      unfold pleachlaw11_few.f
      rw [Option.bind_some, pleachlaw11_DeltaBack.j0]
      cases hf : (decide (l.length ≤ 60) && decide (pleachlaw11_few.sum_ (l.take 61) ≤ 10000)) with
      | false => rw [if_pos (by rfl), haw]
      | true =>
        rw [if_neg (by simp)]
        simp only [Bool.and_eq_true, decide_eq_true_eq] at hf
        obtain ⟨r, e1, e2, e3, e5⟩ := row_ok base text (by omega) (by omega)
        obtain ⟨b, hb⟩ := M.dput_some (l := r.map pc) (fun p hp => by obtain ⟨x, hx, rfl⟩ := List.mem_map.1 hp; exact e2 x hx)
        have p1 : delta_Put.f r = some (M.sb b, 0) := by rw [put_of r (by omega), hb]
        have p3 : delta_Encode.f base text = some (M.sb b, 0) := by
          unfold delta_Encode.f
          rw [if_pos (by omega), e1, Option.bind_some, p1]
        have p4 : delta_Apply.f base (M.sb b) = some (text, 0) := by
          unfold delta_Apply.f
          rw [take_put r (by omega) b hb, Option.bind_some]
          simp only [if_true]
          unfold delta_Join.f
          rw [if_pos (by omega), Option.bind_some]
          show some (M.sb (M.djoin base [] (r.map pc)).1, (M.djoin base [] (r.map pc)).2) = _
          rw [e5, M.sb_bs]
        rw [p3, Option.bind_some, p4, Option.bind_some]
        simp only [if_true]
        rw [show (text.toList != text.toList) = false from by simp, pleachlaw11_DeltaBack.j1, if_neg (by simp), put_of l (by omega)]
        cases hl : M.dput (l.map pc) with
        | none =>
          simp only [Option.bind_some]
          rw [if_neg (by decide), if_pos (by rw [M.toList_bs]; rfl), haw]
        | some c =>
          simp only [Option.bind_some, if_true]
          rw [take_put l (by omega) c hl, Option.bind_some]
          simp only
          unfold pleachref11_Same.f
          rw [if_pos (by omega), Option.bind_some, pleachref11_Same.eq_self, if_pos rfl]
          simp only [if_true]
          exact haw
end Go.Proofs.Ytadpicphohobbaa.Pure
