/- The law ScanBack: what was put is read as it was, to the end: a number (of one below 0: 0), a text, a number of either sign, and what stands behind. For any two numbers and any two texts. No further condition. -/
import Derived.Test.YtnmimkoehgdehaaEScanBackx3
namespace Go.Proofs.Ytnmimkoehgdehaa.Pure
open Go.RowKit Go.Proofs.Ytnmimkoehgdehaa.EScanBack Go.Proofs.YtnmimkoehgdehaaW.PrintWords Go.Proofs.YtnmimkoehgdehaaW.PrintLast Go.Proofs.YtnmimkoehgdehaaW.PrintMore

theorem back (k : Nat) (n m : Int) (s t : ByteArray) (hn : n ≤ 9223372036854775807) (hm : -9223372036854775808 ≤ m ∧ m ≤ 9223372036854775807) (hs : s.size ≤ 500) (ht : t.size ≤ 500) :
    pleachlaw04_ScanBack.j0 (k + 1) n m s t false = some true := by
  have hz := M.zig_range hm.1 hm.2
  obtain ⟨u, hu⟩ := Int.eq_ofNat_of_zero_le hz.1
  have hu64 : u < 18446744073709551616 := by omega
  have l1 := M.vb_le n.toNat (by omega)
  have l2 := M.vb_le s.size (by omega)
  have l3 := M.vb_le u hu64
  have f1 : scan_PutNum.f n = some (M.sb (M.vb n.toNat)) := by unfold scan_PutNum.f; rw [if_pos hn]
  have f2 : scan_PutText.f s = some (M.sb (M.vb s.size) ++ s) := by unfold scan_PutText.f; rw [if_pos (by omega)]
  have f3 : scan_PutInt.f m = some (M.sb (M.vb u)) := by unfold scan_PutInt.f varint_Int.f; rw [if_pos hm, hu, Int.toNat_natCast]
  have f4 : pleachref04_PutNum.f n = some (M.sb (M.vb n.toNat)) := by unfold pleachref04_PutNum.f; rw [if_pos hn]
  have f5 : pleachref04_PutText.f s = some (M.sb (M.vb s.size) ++ s) := by unfold pleachref04_PutText.f; rw [if_pos (by omega)]
  have f6 : pleachref01_Zig.f m = some (u : Int) := by unfold pleachref01_Zig.f; rw [if_pos hm, hu]
  have f7 : pleachref01_Put.f (u : Int) = some (M.sb (M.vb u)) := by unfold pleachref01_Put.f; rw [if_pos ⟨by omega, by omega⟩, Int.toNat_natCast]
  obtain ⟨p, hp⟩ : ∃ p, p = ((M.sb (M.vb n.toNat) ++ (M.sb (M.vb s.size) ++ s)) ++ M.sb (M.vb u)) ++ t := ⟨_, rfl⟩
  have hb : M.bs p = M.vb n.toNat ++ (M.vb s.size ++ (M.bs s ++ (M.vb u ++ M.bs t))) := by
    rw [hp]; simp [M.bs_append, M.bs_sb]
  have hps : p.size = (M.vb n.toNat).length + ((M.vb s.size).length + (s.size + ((M.vb u).length + t.size))) := by
    rw [← M.bs_length, hb]; simp [M.bs_length]
  have z1 : (M.sb (M.vb n.toNat)).size = (M.vb n.toNat).length := M.size_sb _
  have z2 : (M.sb (M.vb s.size) ++ s).size = (M.vb s.size).length + s.size := by rw [M.size_append, M.size_sb]
  have z3 : (M.sb (M.vb u)).size = (M.vb u).length := M.size_sb _
  have z12 : (M.sb (M.vb n.toNat) ++ (M.sb (M.vb s.size) ++ s)).size = (M.vb n.toNat).length + ((M.vb s.size).length + s.size) := by rw [M.size_append, z1, z2]
  have z123 : ((M.sb (M.vb n.toNat) ++ (M.sb (M.vb s.size) ++ s)) ++ M.sb (M.vb u)).size = (M.vb n.toNat).length + ((M.vb s.size).length + s.size) + (M.vb u).length := by rw [M.size_append, z12, z3]
  have d0 : (M.bs p).drop 0 = M.vb n.toNat ++ (M.vb s.size ++ (M.bs s ++ (M.vb u ++ M.bs t))) := by rw [List.drop_zero, hb]
  have d1 : (M.bs p).drop (0 + (M.vb n.toNat).length) = M.vb s.size ++ (M.bs s ++ (M.vb u ++ M.bs t)) := by rw [Nat.zero_add, hb, List.drop_left' rfl]
  have d2 : (M.bs p).drop (0 + (M.vb n.toNat).length + (M.vb s.size).length) = M.bs s ++ (M.vb u ++ M.bs t) := by rw [← List.drop_drop, d1, List.drop_left' rfl]
  have d3 : (M.bs p).drop (0 + (M.vb n.toNat).length + (M.vb s.size).length + (M.bs s).length) = M.vb u ++ M.bs t := by rw [← List.drop_drop, d2, List.drop_left' rfl]
  have d4 : (M.bs p).drop (0 + (M.vb n.toNat).length + (M.vb s.size).length + (M.bs s).length + (M.vb u).length) = M.bs t := by rw [← List.drop_drop, d3, List.drop_left' rfl]
  have hls := M.bs_length s
  have g1 : scan_Scan_Num.f p 0 0 true 9223372036854775807 = some ((n.toNat : Int), p, ((0 + (M.vb n.toNat).length : Nat) : Int), 0, true) := by
    have e : M.snum p 0 9223372036854775807 = ((n.toNat : Int), ((0 + (M.vb n.toNat).length : Nat) : Int), 0) := M.snum_here (s := p) (p := 0) (most := 9223372036854775807) d0 (by omega) (by decide)
    unfold scan_Scan_Num.f
    rw [if_pos ⟨rfl, rfl⟩, if_pos ⟨⟨by decide, by omega, by omega⟩, by decide⟩, e]
  have g2 : scan_Scan_Text.f p ((0 + (M.vb n.toNat).length : Nat) : Int) 0 true (s.size : Int) = some (s, p, ((0 + (M.vb n.toNat).length + (M.vb s.size).length + (M.bs s).length : Nat) : Int), 0, true) := by
    have h1 := M.snum_here (s := p) (most := (s.size : Int)) d1 (Int.le_refl _) (by omega)
    have h2 := M.sfix_here (s := p) d2 (by omega)
    rw [hls] at h2
    unfold scan_Scan_Text.f M.xtext M.xnum M.xfix
    rw [if_pos rfl, if_pos ⟨M.sok_nat (by omega) (by omega), by omega⟩]
    simp only [if_true, h1, h2]
    rw [M.sb_bs, hls]
  have g3 : scan_Scan_Int.f p ((0 + (M.vb n.toNat).length + (M.vb s.size).length + (M.bs s).length : Nat) : Int) 0 true = some (m, p, ((0 + (M.vb n.toNat).length + (M.vb s.size).length + (M.bs s).length + (M.vb u).length : Nat) : Int), 0, true) := by
    have h1 := M.sint_here (s := p) d3 hu64
    unfold scan_Scan_Int.f
    rw [if_pos ⟨rfl, rfl⟩, if_pos (M.sok_nat (by omega) (by omega)), h1, ← hu, M.zag_zig]
  have g4 : scan_Scan_Rest.f p ((0 + (M.vb n.toNat).length + (M.vb s.size).length + (M.bs s).length + (M.vb u).length : Nat) : Int) 0 true = some (t, p, (p.size : Int), 0, true) := by
    unfold scan_Scan_Rest.f
    rw [if_pos ⟨rfl, rfl⟩, if_pos (M.sok_nat (by omega) (by omega)), Int.toNat_natCast]
    have : p.extract (0 + (M.vb n.toNat).length + (M.vb s.size).length + (M.bs s).length + (M.vb u).length) p.size = t := M.bs_inj (by rw [M.bs_drop, d4])
    rw [this]
  have g5 : scan_Scan_End.f p (p.size : Int) 0 true = some (0, p, (p.size : Int), 0, true) := by
    unfold scan_Scan_End.f
    have c : ¬ ((0 : Int) = 0 ∧ (p.size : Int) < (p.size : Int)) := fun z => absurd z.2 (Int.lt_irrefl _)
    rw [if_pos rfl, if_neg c]
  have g6 : (n.toNat : Int) = mx n 0 := by
    by_cases h0 : 0 ≤ n
    · rw [M.mx_ge h0]; omega
    · rw [M.mx_le (by omega)]; omega
  simp only [pleachlaw04_ScanBack.j0]
  rw [if_neg (by simp), f1, Option.bind_some, f2, Option.bind_some, if_pos (by omega), f3, Option.bind_some, if_pos (by omega), if_pos (by omega), f4, Option.bind_some, f5, Option.bind_some, if_pos (by omega), f6, Option.bind_some, f7, Option.bind_some, if_pos (by omega), if_pos (by omega), if_pos rfl]
  rw [← hp]
  unfold scan_New.f
  rw [Option.bind_some]
  simp only
  rw [g1, Option.bind_some]
  simp only
  rw [g2, Option.bind_some]
  simp only
  rw [g3, Option.bind_some]
  simp only
  rw [g4, Option.bind_some]
  simp only
  rw [if_pos g6, if_pos trivial, if_pos trivial, if_pos trivial, g5, Option.bind_some]
  simp only
  rw [if_pos trivial]
  rfl

theorem ScanBack : pleachlaw04_ScanBack.Pure := by
  intro n m s t wn wm _ _
  refine ⟨1, ?_⟩
  unfold pleachlaw04_ScanBack.f
  by_cases h1 : (s.size : Int) > 500
  · rw [if_pos h1]; simp only [pleachlaw04_ScanBack.j0]; rw [if_pos trivial]; rfl
  · rw [if_neg h1]
    by_cases h2 : (t.size : Int) > 500
    · rw [decide_eq_true h2]; simp only [pleachlaw04_ScanBack.j0]; rw [if_pos trivial]; rfl
    · rw [decide_eq_false h2]
      exact back 0 n m s t (M.wf_i64 wn).2 (M.wf_i64 wm) (by omega) (by omega)

end Go.Proofs.Ytnmimkoehgdehaa.Pure
