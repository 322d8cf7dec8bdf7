/- The law DeltaTakes: the pieces of any bytes, and what these make of any base, are the document's. No further condition. -/
import Derived.Test.YtadpicphohobbaaEDeltaTakesx10
namespace Go.Proofs.Ytadpicphohobbaa.Pure
open Go.RowKit Go.Proofs.Ytadpicphohobbaa.EDeltaTakes Go.Proofs.YtadpicphohobbaaW.PrintWords Go.Proofs.YtadpicphohobbaaW.PrintLast Go.Proofs.YtadpicphohobbaaW.PrintMore
theorem awake_row : delta_Pieces.f (⟨#[97, 98, 99, 100, 101, 102, 103, 104, 105, 106]⟩ : ByteArray) (⟨#[97, 98, 99, 100, 101, 102, 103, 104, 88]⟩ : ByteArray) = some [(⟨true, 0, 8, (⟨#[]⟩ : ByteArray)⟩ : S34), (⟨false, 0, 1, (⟨#[88]⟩ : ByteArray)⟩ : S34)] := by kernel_rfl
theorem awake : pleachlaw11_awake.f = some true := by
  unfold pleachlaw11_awake.f
  rw [awake_row, Option.bind_some, pleachref11_Same.f, if_pos (by decide), pleachref11_Same.eq_self]; rfl
theorem DeltaTakes : pleachlaw11_DeltaTakes.Pure := by
  intro base s _ _
  refine ⟨0 + 1, ?_⟩
  unfold pleachlaw11_DeltaTakes.f
  have haw : (pleachlaw11_awake.f.bind fun t => some t) = some true := by rw [awake]; rfl
  by_cases h1 : (base.size : Int) > 1000
  · rw [if_pos h1, pleachlaw11_DeltaTakes.j0, if_pos rfl, haw]
  · rw [if_neg h1, pleachlaw11_DeltaTakes.j0]
    by_cases h2 : (s.size : Int) > 1000
    · rw [if_pos (decide_eq_true h2), haw]
    · rw [if_neg (by simp; omega)]
      have t1 : delta_Take.f s = some (delta_Take.res [] (M.dtake s (s.size + 1) 0)) := by unfold delta_Take.f; rw [if_pos (by omega)]
      have t2 : pleachref11_Take.f s = some (pleachref11_Take.res [] (M.dtake s (s.size + 1) 0)) := by unfold pleachref11_Take.f; rw [if_pos (by omega)]
      unfold delta_Apply.f pleachref11_Apply.f
      rw [t1, t2]
      cases hd : M.dtake s (s.size + 1) 0 with
      | none =>
        simp only [delta_Take.res, pleachref11_Take.res, Option.bind_some, pleachref11_Same.f]
        simp only [pleachref11_Same.eq, haw]
        simp
      | some l =>
        have hl := M.dtake_len (s.size + 1) 0 l ⟨by decide, by omega, by omega⟩ hd
        have e : l.map delta_Take.un = l.map pleachref11_Take.un := rfl
        have j1 : delta_Join.f base (l.map pleachref11_Take.un) = some (M.sb (M.djoin base [] ((l.map pleachref11_Take.un).map delta_Join.pc)).1, (M.djoin base [] ((l.map pleachref11_Take.un).map delta_Join.pc)).2) := by
          unfold delta_Join.f; rw [if_pos (by rw [List.length_map]; omega)]
        have j2 : pleachref11_Join.f base (l.map pleachref11_Take.un) = some (M.sb (M.djoin base [] ((l.map pleachref11_Take.un).map delta_Join.pc)).1, (M.djoin base [] ((l.map pleachref11_Take.un).map delta_Join.pc)).2) := by
          unfold pleachref11_Join.f; rw [if_pos (by rw [List.length_map]; omega)]; rfl
        simp only [delta_Take.res, pleachref11_Take.res, Option.bind_some, List.nil_append, e, j1, j2, pleachref11_Same.f, if_true]
        rw [if_pos (by rw [List.length_map]; omega), Option.bind_some, pleachref11_Same.eq_self]
        simp only [haw]
        simp
end Go.Proofs.Ytadpicphohobbaa.Pure
