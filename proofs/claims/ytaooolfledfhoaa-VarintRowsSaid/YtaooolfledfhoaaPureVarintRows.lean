/- The law VarintRows: any numbers' bytes, one behind the other, lead back, whatever is behind; and so many of any bytes are the document's. No further condition. -/
import Derived.Test.YtaooolfledfhoaaEVarintRowsx4
namespace Go.Proofs.Ytaooolfledfhoaa.Pure
open Go.RowKit Go.Proofs.Ytaooolfledfhoaa.EVarintRows Go.Proofs.YtaooolfledfhoaaW.PrintWords Go.Proofs.YtaooolfledfhoaaW.PrintLast Go.Proofs.YtaooolfledfhoaaW.PrintMore
theorem back (l : List Int) (hr : ∀ n ∈ l, 0 ≤ n ∧ n < 18446744073709551616) (s : ByteArray) (r : List UInt8) (d : Nat) : ∀ (i p f : Nat), i + d = l.length → p ≤ s.size → s.size < f + p → (M.bs s).drop p = varint_Row.bytes (l.drop i) ++ r →
    varint_Rows.go s (l.length : Int) f (l.take i) (p : Int) = (l, ((p + (varint_Row.bytes (l.drop i)).length : Nat) : Int), true) := by
  induction d with
  | zero =>
    intro i p f hi hp hf _
    obtain ⟨f, rfl⟩ : ∃ g, f = g + 1 := ⟨f - 1, by omega⟩
    rw [varint_Rows.go, List.take_of_length_le (by omega), if_neg (by omega), List.drop_of_length_le (by omega)]
    rfl
  | succ d ih =>
    intro i p f hi hp hf h
    have hlt : i < l.length := by omega
    obtain ⟨f, rfl⟩ : ∃ g, f = g + 1 := ⟨f - 1, by omega⟩
    have hn := hr _ (List.getElem_mem hlt)
    rw [List.drop_eq_getElem_cons hlt, varint_Row.bytes, List.append_assoc] at h
    have hv : M.vget (s.extract (p : Int).toNat s.size) = (l[i], ((M.vb l[i].toNat).length : Int), true) := by
      rw [M.vget_drop, h, M.vgetL_vb (by omega)]
      simp only [Prod.mk.injEq, and_true]; omega
    have hpos := M.vb_pos l[i].toNat
    have hle := M.drop_le h hp
    rw [varint_Rows.go, if_pos (by rw [List.length_take]; omega), hv, if_pos rfl]
    have := ih (i + 1) (p + (M.vb l[i].toNat).length) f (by omega) hle (by omega) (M.drop_on h)
    rw [List.take_succ_eq_append_getElem hlt] at this
    rw [show (p : Int) + ((M.vb l[i].toNat).length : Int) = ((p + (M.vb l[i].toNat).length : Nat) : Int) from by omega, this, List.drop_eq_getElem_cons hlt, varint_Row.bytes, List.length_append, Nat.add_assoc]
theorem VarintRows : pleachlaw01_VarintRows.Pure := by
  intro l s count _ _ hw _ _
  have haw : (pleachlaw01_awake.f.bind fun t => some t) = some true := rfl
  refine ⟨0 + 1 + 1, ?_⟩
  unfold pleachlaw01_VarintRows.f
  by_cases h1 : (l.length : Int) > 300
  · rw [if_pos h1, pleachlaw01_VarintRows.j0, if_pos rfl, haw]
  · rw [if_neg h1]
    by_cases h2 : (s.size : Int) > 1000
    · rw [pleachlaw01_VarintRows.j0, if_pos (decide_eq_true h2), haw]
    · rw [pleachlaw01_VarintRows.j0, if_neg (by simp; omega)]
      have hr : ∀ n ∈ l, 0 ≤ n ∧ n < 18446744073709551616 := fun n hn => M.wf_u64 (hw n hn)
      have hbl := varint_Row.bytes_le l hr
      have p1 : varint_Row.f l = some (M.sb (varint_Row.bytes l)) := by unfold varint_Row.f; exact if_pos ⟨by omega, hr⟩
      have hsz : (M.sb (varint_Row.bytes l)).size = (varint_Row.bytes l).length := M.size_sb _
      have hb := back l hr (M.sb (varint_Row.bytes l) ++ s) (M.bs s) l.length 0 0 ((M.sb (varint_Row.bytes l) ++ s).size + 1) (by omega) (by omega) (by omega) (by rw [List.drop_zero, List.drop_zero, M.bs_append, M.bs_sb])
      rw [List.take_zero, List.drop_zero, Nat.zero_add] at hb
      have r1 : varint_Rows.f (M.sb (varint_Row.bytes l) ++ s) (l.length : Int) = some (l, ((varint_Row.bytes l).length : Int), true) := by
        unfold varint_Rows.f
        rw [if_pos (by rw [M.size_append]; omega)]
        exact congrArg some hb
      have r2 : varint_Rows.f s count = some (varint_Rows.go s count (s.size + 1) [] 0) := by unfold varint_Rows.f; exact if_pos (by omega)
      have nm : ∀ m : List Int, m.length ≤ 9223372036854775806 → pleachplain_Nums.f m m = some true := by
        intro m hm; unfold pleachplain_Nums.f; rw [if_pos hm, decide_eq_true rfl]
      have hgl : ∀ (f : Nat) (out : List Int) (p : Nat), p ≤ s.size → out.length ≤ p → s.size < f + p → (varint_Rows.go s count f out (p : Int)).1.length ≤ 1000 + 1 := by
        intro f
        induction f with
        | zero => intro out p a _ b; omega
        | succ f ih =>
          intro out p a b c
          rw [varint_Rows.go, Int.toNat_natCast]
          by_cases hc : (out.length : Int) < count
          · rw [if_pos hc]
            have hat := M.vget_at s (p := (p : Int)) ⟨by omega, by omega, by omega⟩
            have hpos := varint_Rows.vget_pos (s.extract p s.size)
            rw [Int.toNat_natCast] at hat
            by_cases hb : (M.vget (s.extract p s.size)).2.2 = true
            · rw [if_pos hb]
              have hpos := hpos hb
              obtain ⟨m, hm⟩ := Int.eq_ofNat_of_zero_le (show 0 ≤ (M.vget (s.extract p s.size)).2.1 by omega)
              rw [hm] at hat hpos ⊢
              exact ih _ (p + m) (by omega) (by rw [List.length_append, List.length_singleton]; omega) (by omega)
            · rw [if_neg hb]; simp
          · rw [if_neg hc]
            simp only; omega
      have hg := hgl (s.size + 1) [] 0 (Nat.zero_le _) (Nat.le_refl _) (by omega)
      have r3 : pleachref01_Rows.f s count = some (varint_Rows.go s count (s.size + 1) [] 0) := r2
      rw [p1, Option.bind_some, if_pos (by rw [hsz]; omega), r1, Option.bind_some, nm l (by omega), Option.bind_some, if_pos rfl, if_pos (by rw [hsz]), pleachlaw01_VarintRows.j1, if_neg (by simp), r2, Option.bind_some, r3, Option.bind_some]
      have hg' : (varint_Rows.go s count (s.size + 1) [] 0).1.length ≤ 1000 + 1 := hg
      rw [nm _ (by omega), Option.bind_some, if_pos rfl, if_pos rfl, if_pos (by simp), haw]
end Go.Proofs.Ytaooolfledfhoaa.Pure
