/- The law ScanKeeps: behind an error nothing is read, and the error stays. For any text, any error but 0, any number. No further condition. -/
import Derived.Test.YtnmimkoehgdehaaEScanKeepsx3
namespace Go.Proofs.Ytnmimkoehgdehaa.Pure
open Go.RowKit Go.Proofs.Ytnmimkoehgdehaa.EScanKeeps Go.Proofs.YtnmimkoehgdehaaW.PrintWords Go.Proofs.YtnmimkoehgdehaaW.PrintLast Go.Proofs.YtnmimkoehgdehaaW.PrintMore

theorem keeps (k : Nat) (s : ByteArray) (e n : Int) (he : e ≠ 0) (hs : s.size ≤ 9223372036854775807) (hn : -9223372036854775808 ≤ n ∧ n ≤ 9223372036854775807) :
    pleachlaw04_ScanKeeps.j0 (k + 2) s e n false = some true := by
  have hok : M.sok s 0 := ⟨by decide, by omega, hs⟩
  have hnil : (M.sb []).toList = ([] : List UInt8) := by rw [M.toList_bs]; rfl
  have f0 : scan_Scan_Fail.f s 0 0 true e = some (s, 0, e, true) := by
    unfold scan_Scan_Fail.f scan_Scan_fail.f scan_Scan_Err.f
    simp [he]
  have f1 : scan_Scan_Fix.f s 0 e true n = some (M.sb [], s, 0, e, true) := by
    unfold scan_Scan_Fix.f scan_Scan_take.f M.xfix
    rw [if_pos rfl, if_pos ⟨hok, hn⟩]; simp only [if_neg he]
  have f2 : scan_Scan_Byte.f s 0 e true = some (0, s, 0, e, true) := by
    unfold scan_Scan_Byte.f M.xbyte
    rw [if_pos rfl, if_pos hok]; simp only [if_neg he]
  have f3 : scan_Scan_Num.f s 0 e true n = some (0, s, 0, e, true) := by
    unfold scan_Scan_Num.f; rw [if_neg (fun z => he z.2)]
  have f4 : scan_Scan_Int.f s 0 e true = some (0, s, 0, e, true) := by
    unfold scan_Scan_Int.f; rw [if_neg (fun z => he z.2)]
  have f5 : scan_Scan_Text.f s 0 e true n = some (M.sb [], s, 0, e, true) := by
    unfold scan_Scan_Text.f M.xtext M.xnum M.xfix
    rw [if_pos rfl, if_pos ⟨hok, hn.2⟩]; simp only [if_neg he]
  have f6 : scan_Scan_Rest.f s 0 e true = some (M.sb [], s, 0, e, true) := by
    unfold scan_Scan_Rest.f; rw [if_neg (fun z => he z.2)]
  have f7 : scan_Scan_Fail.f s 0 e true 2 = some (s, 0, e, true) := by
    unfold scan_Scan_Fail.f scan_Scan_fail.f scan_Scan_Err.f
    simp [he]
  have f8 : scan_Scan_End.f s 0 e true = some (e, s, 0, e, true) := by
    unfold scan_Scan_End.f; rw [if_pos rfl, if_neg (fun z => he z.1)]
  simp only [pleachlaw04_ScanKeeps.j0, scan_New.f, Option.bind_some, f0, f1, f2, f3, f4, f5, f6, hnil, if_true]
  simp [pleachlaw04_ScanKeeps.j1, f7, f8, scan_Scan_Err.f, scan_Scan_At.f, pleachlaw04_awake.f]

theorem ScanKeeps : pleachlaw04_ScanKeeps.Pure := by
  intro s e n hs _ wn
  refine ⟨2, ?_⟩
  unfold pleachlaw04_ScanKeeps.f
  by_cases h1 : (s.size : Int) > 500
  · rw [if_pos h1]; simp only [pleachlaw04_ScanKeeps.j0]; rw [if_pos trivial]; rfl
  · rw [if_neg h1]
    by_cases h2 : e = 0
    · rw [show (e == 0) = true from by simpa using h2]; simp only [pleachlaw04_ScanKeeps.j0]; rw [if_pos trivial]; rfl
    · rw [show (e == 0) = false from by simpa using h2]
      exact keeps 0 s e n h2 (by omega) (M.wf_i64 wn)

end Go.Proofs.Ytnmimkoehgdehaa.Pure
