/- The law VarintBack: a number comes back from its bytes, whatever stands behind them; what Get takes, put again, is what was read; no number's bytes begin with another's. For any numbers of 64 bits and any text. No further condition. -/
import Derived.Test.YtaooolfledfhoaaEVarintBackx2
namespace Go.Proofs.Ytaooolfledfhoaa.Pure
open Go.RowKit Go.Proofs.Ytaooolfledfhoaa.EVarintBack Go.Proofs.YtaooolfledfhoaaW.PrintWords Go.Proofs.YtaooolfledfhoaaW.PrintLast Go.Proofs.YtaooolfledfhoaaW.PrintMore

theorem short_eq (a b : List UInt8) : ((a.take (min a.length b.length) == b.take (min a.length b.length)) = true) → (∃ r, b = a ++ r) ∨ (∃ r, a = b ++ r) := by
  intro h
  have h := eq_of_beq h
  rcases Nat.le_total a.length b.length with hl | hl
  · left
    rw [Nat.min_eq_left hl, List.take_length] at h
    exact ⟨b.drop a.length, by rw [h, List.length_take, Nat.min_eq_left hl, List.take_append_drop]⟩
  · right
    rw [Nat.min_eq_right hl, List.take_length] at h
    exact ⟨a.drop b.length, by rw [← h, List.length_take, Nat.min_eq_left hl, List.take_append_drop]⟩

theorem back_eq (n m : Nat) : (((M.vb n).take (min (M.vb n).length (M.vb m).length) == (M.vb m).take (min (M.vb n).length (M.vb m).length)) == ((n : Int) == (m : Int))) = true := by
  by_cases e : n = m
  · subst e; simp
  · have h1 : ((n : Int) == (m : Int)) = false := by simp; omega
    rw [h1]
    cases h : ((M.vb n).take (min (M.vb n).length (M.vb m).length) == (M.vb m).take (min (M.vb n).length (M.vb m).length)) with
    | false => rfl
    | true =>
      exfalso
      rcases short_eq _ _ h with ⟨r, hr⟩ | ⟨r, hr⟩
      · exact e (M.vb_prefix (a := r) (b := []) (by rw [← hr]; simp))
      · exact e (M.vb_prefix (a := []) (b := r) (by rw [← hr]; simp))

theorem back_end (k n m : Nat) (hm : m < 18446744073709551616) : pleachlaw01_VarintBack.j1 (k + 1) (n : Int) (m : Int) (M.sb (M.vb n)) false = some true := by
  simp only [pleachlaw01_VarintBack.j1]
  have hp : varint_Put.f (m : Int) = some (M.sb (M.vb m)) := by unfold varint_Put.f; rw [if_pos ⟨by omega, by omega⟩, Int.toNat_natCast]
  have hmn : mn ((M.sb (M.vb n)).size : Int) ((M.sb (M.vb m)).size : Int) = ((min (M.vb n).length (M.vb m).length : Nat) : Int) := by
    rw [M.size_sb, M.size_sb]; unfold mn; split <;> omega
  rw [if_neg (by simp), hp]
  simp only [Option.bind_some]
  rw [hmn, if_pos (by omega), if_pos (by rw [M.size_sb]; omega), if_pos (by rw [M.size_sb]; omega), Int.toNat_natCast, M.toList_bs, M.toList_bs, M.bs_take, M.bs_take, M.bs_sb, M.bs_sb]
  rw [if_pos (back_eq n m)]
  rfl

theorem VarintBack : pleachlaw01_VarintBack.Pure := by
  intro a0 a1 a2 w0 w1 hs
  obtain ⟨h00, h01⟩ := M.wf_u64 w0
  obtain ⟨h10, h11⟩ := M.wf_u64 w1
  obtain ⟨n, rfl⟩ := Int.eq_ofNat_of_zero_le h00
  obtain ⟨m, rfl⟩ := Int.eq_ofNat_of_zero_le h10
  have hn : n < 18446744073709551616 := by omega
  have hm : m < 18446744073709551616 := by omega
  refine ⟨2, ?_⟩
  unfold pleachlaw01_VarintBack.f
  split
  · rfl
  · rename_i h1000
    have hp : ∀ n : Nat, n < 18446744073709551616 → varint_Put.f (n : Int) = some (M.sb (M.vb n)) := fun n hn => by unfold varint_Put.f; rw [if_pos ⟨by omega, by omega⟩, Int.toNat_natCast]
    have hl := M.vb_le n hn
    have hg : M.vget (M.sb (M.vb n) ++ a2) = ((n : Int), ((M.vb n).length : Int), true) := by
      unfold M.vget; rw [M.bs_append, M.bs_sb, M.vgetL_vb hn]
    rw [hp n hn]
    simp only [Option.bind_some, varint_Get.f, hg]
    rw [if_pos (by rw [M.size_sb]; omega), if_pos trivial, if_pos (by rw [M.size_sb])]
    simp only [pleachlaw01_VarintBack.j0, Bool.not_true, varint_Get.f, Option.bind_some]
    rw [if_neg (by simp)]
    have hsz := M.bs_length a2
    rcases M.vgetL_cases (M.bs a2) with ⟨b, r, hb, hr, e⟩ | ⟨_, e⟩
    · have e' : M.vget a2 = ((b : Int), ((M.vb b).length : Int), true) := e
      rw [e']
      simp only
      rw [hr, List.length_append] at hsz
      rw [if_pos trivial, if_neg (by omega), hp b hb]
      simp only [Option.bind_some]
      rw [if_pos (by omega), if_pos (by omega), M.toList_bs, M.toList_bs, M.bs_take, M.bs_sb, Int.toNat_natCast, hr, List.take_left' rfl]
      rw [show (M.vb b != M.vb b) = false from by simp]
      exact back_end 0 n m hm
    · have e' : M.vget a2 = (0, 0, false) := e
      rw [e']
      simp only
      rw [if_neg (by simp)]
      exact back_end 0 n m hm

end Go.Proofs.Ytaooolfledfhoaa.Pure
