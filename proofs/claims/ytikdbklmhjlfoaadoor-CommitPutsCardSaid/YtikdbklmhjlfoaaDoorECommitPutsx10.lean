-- Written by this session's own program (wip/tools/ext.py) for this claim; Lean checks it.
import Derived.Test.YtikdbklmhjlfoaaDoorECommitPutsx0
import Derived.Test.YtikdbklmhjlfoaaDoorECommitPutsx1
import Derived.Test.YtikdbklmhjlfoaaDoorECommitPutsx3
import Derived.Test.YtikdbklmhjlfoaaDoorECommitPutsx5
import Derived.Test.YtikdbklmhjlfoaaDoorECommitPutsx7
import Derived.Test.YtikdbklmhjlfoaaDoorECommitPutsx8
import Derived.Test.YtikdbklmhjlfoaaDoorECommitPutsx9
namespace Go.Proofs.YtikdbklmhjlfoaaDoor.ECommitPuts
open Go.RowKit Go.Proofs.YtikdbklmhjlfoaaDoorW.PrintWords Go.Proofs.YtikdbklmhjlfoaaDoorW.PrintLast Go.Proofs.YtikdbklmhjlfoaaDoorW.PrintMore
attribute [local go_sem] M.run_leq M.run_gtr M.run_geq max2_int min2_int max_two min_two max_three min_three max_four min_four   -- for this text's walks alone
set_option linter.unusedVariables false
set_option linter.unusedSimpArgs false

/-! ### pleachlaw35_CommitPuts: function 4 -/
def pleachlaw35_CommitPuts.f (n : Int) (ps : List ByteArray) (gr note : ByteArray) : Option Bool := some true
theorem pleachlaw35_CommitPuts.store_ (base g : Nat) (F : Nat → Prop) (t m : ByteArray) (n : Int) (A : Option Addr) (c : Nat) (ps : List ByteArray) (gr note : ByteArray) (w : World) (hr : Kd.C Kd.string w A ps.length ps) (hc : ps.length ≤ c) (hi : M.isC n ps gr note) (ht : t = M.sb (M.cput n ps gr note))
    (hS : M.Sh Tryd.prog base w g F M.SS.none_) (hT : M.stab w) (hz : t.size ≤ 1000) (hp : M.SS.none_.put t = (m, 0, ⟨[t], ByteArray.empty, ByteArray.empty⟩)) :
    Calls Tryd.prog 16 #[.pointer (some ⟨g, 0, none⟩), .agg #[.int .i64 n, .slice A ps.length c, .string gr, .string note]] w fun e w' => e = .returned (.tuple #[.string m, .int .i64 0]) ∧ ∃ F', M.Sh Tryd.prog base w' g F' ⟨[t], ByteArray.empty, ByteArray.empty⟩ ∧ Below base w w' := by
  subst ht
  exact commit_Store.good base g F M.SS.none_ _ m 0 n A c ps gr note w hr hc hi hS hT (by omega) (by decide) (by rw [hp]) (by rw [hp]) (by rw [hp])
set_option maxHeartbeats 8000000 in
set_option maxRecDepth 100000 in
theorem pleachlaw35_CommitPuts.out1 (A : Option Addr) (c : Nat) (n : Int) (ps : List ByteArray) (gr note : ByteArray) (w : World) (hr0 : Kd.C Kd.string w A ps.length ps) (hc0 : ps.length ≤ c) (hT : M.stab w) (hf : pleachlaw35_few.f n ps gr note = some false) :
    Calls Tryd.prog 4 #[.agg #[.int .i64 n, .slice A ps.length c, .string gr, .string note]] w fun e w' => e = .returned (.bool true) ∧ Below w.heap.size w w' := by
  have HT := Aside0.mk hT
  have hlt := Aside0.mk (M.stab_lt hT)
  have HRW := Aside0.mk hr0
  have HC0 := Aside0.mk hc0
  have HF := Aside0.mk hf
  have HB := Aside0.mk (below_alloc (Below.refl w.heap.size w) (.cells #[.int .i64 n, .slice A ps.length c, .string gr, .string note] 24))
  have HC := Aside0.mk (M.rec_new w 24 [.int .i64 n, .slice A ps.length c, .string gr, .string note])
  clear hT hr0 hc0 hf
  go_enter Tryd.func4, Tryd.ntmps4
  go_wp2_with (first | ((with_reducible refine gate_dst (N := 11) rfl ?_); (try (refine gate_guard (by rfl) ?_; dsimp only)); refine M.wp_rec_load rfl 24 _ rfl w.heap.size 24 [.int .i64 n, .slice A ps.length c, .string gr, .string note] rfl HC.out _ Tryd.underlying24 rfl commit_Load.size_ ?_) | (go_at_call 7; (with_reducible refine (pleachlaw35_few.calls n A c ps gr note false _ (Kd.C_below HRW.out HB.out) HC0.out HF.out).mono ?_); rintro e w1 ⟨rfl, hb⟩; have n0 := Aside0.mk (below_step HB.out hb); have n1 := Aside0.mk (M.rec_below HC.out hb); clear HB HC; have HB := n0; have HC := n1; clear n0 n1; clear hb) | (go_at_call 8; (with_reducible refine (pleachlaw35_awake.walk _ (M.stab_below HT.out HB.out hlt.out)).mono ?_); rintro e w1 ⟨rfl, hb⟩; have n0 := Aside0.mk (below_step HB.out hb); clear HB hb; have HB := n0; clear n0))
  go_ret
  exact ⟨rfl, HB.out⟩
set_option maxHeartbeats 8000000 in
set_option maxRecDepth 100000 in
theorem pleachlaw35_CommitPuts.bad (A : Option Addr) (c : Nat) (n : Int) (ps : List ByteArray) (gr note : ByteArray) (w : World) (hr0 : Kd.C Kd.string w A ps.length ps) (hc0 : ps.length ≤ c) (hT : M.stab w) (hf : pleachlaw35_few.f n ps gr note = some true) (hi : ¬ M.isC n ps gr note) :
    Calls Tryd.prog 4 #[.agg #[.int .i64 n, .slice A ps.length c, .string gr, .string note]] w fun e w' => e = .returned (.bool true) ∧ Below w.heap.size w w' := by
  have HT := Aside0.mk hT
  have hlt := Aside0.mk (M.stab_lt hT)
  have HRW := Aside0.mk hr0
  have HC0 := Aside0.mk hc0
  have HF := Aside0.mk hf
  have HB := Aside0.mk (below_alloc (Below.refl w.heap.size w) (.cells #[.int .i64 n, .slice A ps.length c, .string gr, .string note] 24))
  have HC := Aside0.mk (M.rec_new w 24 [.int .i64 n, .slice A ps.length c, .string gr, .string note])
  have HP : Aside0 (commit_Put.f n ps gr note = some (⟨#[]⟩, 2)) := ⟨by unfold commit_Put.f; rw [if_neg hi]⟩
  have HQ : Aside0 (pleachref35_Put.f n ps gr note = some ⟨#[]⟩) := ⟨by unfold pleachref35_Put.f; rw [if_neg hi]⟩
  have HI : Aside0 (pleachref35_Is.f n ps gr note = some false) := ⟨by unfold pleachref35_Is.f; rw [decide_eq_false hi]⟩
  have HK : Aside0 (commit_Check.f n ps gr note = some 2) := ⟨by unfold commit_Check.f; rw [if_neg hi]⟩
  have HNI := Aside0.mk hi
  have hd0 : (ByteArray.empty : ByteArray).toList.isEmpty = true := by decide +kernel
  have hq3 : ((⟨#[]⟩ : ByteArray).toList != (⟨#[]⟩ : ByteArray).toList) = false := by simp
  have hq4 : ((⟨#[]⟩ : ByteArray).toList == (⟨#[]⟩ : ByteArray).toList) = true := by simp
  clear hT hr0 hc0 hf hi
  go_enter Tryd.func4, Tryd.ntmps4
  go_wp2_with (first | ((with_reducible refine gate_dst (N := 11) rfl ?_); (try (refine gate_guard (by rfl) ?_; dsimp only)); refine M.wp_rec_load rfl 24 _ rfl w.heap.size 24 [.int .i64 n, .slice A ps.length c, .string gr, .string note] rfl HC.out _ Tryd.underlying24 rfl commit_Load.size_ ?_) | ((with_reducible refine gate_dst (N := 16) rfl ?_); (try (refine gate_guard (by rfl) ?_; dsimp only)); refine M.wp_rec_load rfl 24 _ rfl w.heap.size 24 [.int .i64 n, .slice A ps.length c, .string gr, .string note] rfl HC.out _ Tryd.underlying24 rfl commit_Load.size_ ?_) | ((with_reducible refine gate_dst (N := 20) rfl ?_); (try (refine gate_guard (by rfl) ?_; dsimp only)); refine M.wp_rec_load rfl 24 _ rfl w.heap.size 24 [.int .i64 n, .slice A ps.length c, .string gr, .string note] rfl HC.out _ Tryd.underlying24 rfl commit_Load.size_ ?_) | ((with_reducible refine gate_dst (N := 25) rfl ?_); (try (refine gate_guard (by rfl) ?_; dsimp only)); refine M.wp_rec_load rfl 24 _ rfl w.heap.size 24 [.int .i64 n, .slice A ps.length c, .string gr, .string note] rfl HC.out _ Tryd.underlying24 rfl commit_Load.size_ ?_) | ((with_reducible refine gate_dst (N := 30) rfl ?_); (try (refine gate_guard (by rfl) ?_; dsimp only)); refine M.wp_rec_load rfl 24 _ rfl w.heap.size 24 [.int .i64 n, .slice A ps.length c, .string gr, .string note] rfl HC.out _ Tryd.underlying24 rfl commit_Load.size_ ?_) | ((with_reducible refine gate_dst (N := 39) rfl ?_); (try (refine gate_guard (by rfl) ?_; dsimp only)); refine M.wp_rec_load rfl 24 _ rfl w.heap.size 24 [.int .i64 n, .slice A ps.length c, .string gr, .string note] rfl HC.out _ Tryd.underlying24 rfl commit_Load.size_ ?_) | (go_at_call 7; (with_reducible refine (pleachlaw35_few.calls n A c ps gr note true _ (Kd.C_below HRW.out HB.out) HC0.out HF.out).mono ?_); rintro e w1 ⟨rfl, hb⟩; have n0 := Aside0.mk (below_step HB.out hb); have n1 := Aside0.mk (M.rec_below HC.out hb); clear HB HC; have HB := n0; have HC := n1; clear n0 n1; clear hb) | (go_at_call 13; (with_reducible refine (commit_Put.calls n A c ps gr note ⟨#[]⟩ 2 _ (Kd.C_below HRW.out HB.out) HC0.out HP.out).mono ?_); rintro e w1 ⟨rfl, hb⟩; have n0 := Aside0.mk (below_step HB.out hb); have n1 := Aside0.mk (M.rec_below HC.out hb); clear HB HC; have HB := n0; have HC := n1; clear n0 n1; clear hb) | (go_at_call 14; (with_reducible refine (pleachref35_Is.calls n A c ps gr note false _ (Kd.C_below HRW.out HB.out) HC0.out HI.out).mono ?_); rintro e w1 ⟨rfl, hb⟩; have n0 := Aside0.mk (below_step HB.out hb); have n1 := Aside0.mk (M.rec_below HC.out hb); clear HB HC; have HB := n0; have HC := n1; clear n0 n1; clear hb) | (go_at_call 15; (with_reducible refine (shelf_New.any _).mono ?_); rintro e w1 ⟨g, F, rfl, hs, hb⟩; have HS := Aside0.mk hs; have n0 := Aside0.mk (below_step HB.out hb); have n1 := Aside0.mk (M.rec_below HC.out hb); clear HB HC; have HB := n0; have HC := n1; clear n0 n1; clear hs hb) | (go_at_call 16; (with_reducible refine (commit_Store.bad 0 g F M.SS.none_ n A c ps gr note _ (Kd.C_below HRW.out HB.out) HC0.out HNI.out).mono ?_); rintro e w1 ⟨rfl, hb⟩; have n2 := Aside0.mk (HS.out.below hb); clear HS; have HS := n2; clear n2; have n0 := Aside0.mk (below_step HB.out hb); have n1 := Aside0.mk (M.rec_below HC.out hb); clear HB HC; have HB := n0; have HC := n1; clear n0 n1; clear hb) | (go_at_call 17; (with_reducible refine (pleachref35_Put.calls n A c ps gr note ⟨#[]⟩ _ (Kd.C_below HRW.out HB.out) HC0.out HQ.out).mono ?_); rintro e w1 ⟨rfl, hb⟩; have n2 := Aside0.mk (HS.out.below hb); clear HS; have HS := n2; clear n2; have n0 := Aside0.mk (below_step HB.out hb); have n1 := Aside0.mk (M.rec_below HC.out hb); clear HB HC; have HB := n0; have HC := n1; clear n0 n1; clear hb) | (go_at_call 18; (with_reducible refine (commit_Check.calls n A c ps gr note 2 _ (Kd.C_below HRW.out HB.out) HC0.out HK.out).mono ?_); rintro e w1 ⟨rfl, hb⟩; have n2 := Aside0.mk (HS.out.below hb); clear HS; have HS := n2; clear n2; have n0 := Aside0.mk (below_step HB.out hb); have n1 := Aside0.mk (M.rec_below HC.out hb); clear HB HC; have HB := n0; have HC := n1; clear n0 n1; clear hb) | (go_at_call 19; (with_reducible refine (shelf_Shelf_Len.any _ g F M.SS.none_ _ HS.out).mono ?_); rintro e w1 ⟨rfl, rfl⟩) | (go_at_call 8; (with_reducible refine (pleachlaw35_awake.walk _ (M.stab_below HT.out HB.out hlt.out)).mono ?_); rintro e w1 ⟨rfl, hb⟩; have n0 := Aside0.mk (below_step HB.out hb); clear HB hb; have HB := n0; clear n0))
  go_ret
  exact ⟨rfl, HB.out⟩
set_option maxHeartbeats 8000000 in
set_option maxRecDepth 100000 in
theorem pleachlaw35_CommitPuts.good (A : Option Addr) (c : Nat) (n : Int) (ps : List ByteArray) (gr note : ByteArray) (w : World) (hr0 : Kd.C Kd.string w A ps.length ps) (hc0 : ps.length ≤ c) (hT : M.stab w) (hf : pleachlaw35_few.f n ps gr note = some true) (hi : M.isC n ps gr note) :
    Calls Tryd.prog 4 #[.agg #[.int .i64 n, .slice A ps.length c, .string gr, .string note]] w fun e w' => e = .returned (.bool true) ∧ Below w.heap.size w w' := by
  have HT := Aside0.mk hT
  have hlt := Aside0.mk (M.stab_lt hT)
  have HRW := Aside0.mk hr0
  have HC0 := Aside0.mk hc0
  have HF := Aside0.mk hf
  have HB := Aside0.mk (below_alloc (Below.refl w.heap.size w) (.cells #[.int .i64 n, .slice A ps.length c, .string gr, .string note] 24))
  have HC := Aside0.mk (M.rec_new w 24 [.int .i64 n, .slice A ps.length c, .string gr, .string note])
  obtain ⟨t, ht⟩ : ∃ t, t = M.sb (M.cput n ps gr note) := ⟨_, rfl⟩
  have hz : t.size ≤ 1000 := by rw [ht]; exact M.cput_size hi
  have h0 : t ≠ ByteArray.empty := by
    intro e
    have := congrArg M.bs (ht.symm.trans e)
    rw [M.bs_sb] at this
    cases this
  have HP : Aside0 (commit_Put.f n ps gr note = some (t, 0)) := ⟨by unfold commit_Put.f; rw [if_pos hi, ht]⟩
  have HQ : Aside0 (pleachref35_Put.f n ps gr note = some t) := ⟨by unfold pleachref35_Put.f; rw [if_pos hi, ht]⟩
  have HI : Aside0 (pleachref35_Is.f n ps gr note = some true) := ⟨by unfold pleachref35_Is.f; rw [decide_eq_true hi]⟩
  have HK : Aside0 (commit_Check.f n ps gr note = some 0) := ⟨by unfold commit_Check.f; rw [if_pos hi]⟩
  have HTk : Aside0 (commit_Take.f t = some (n, ps, gr, note, 0)) := ⟨by
    obtain ⟨h1, h2, h3, h4, h5⟩ := M.cgood_back hi
    unfold commit_Take.f
    rw [ht, if_pos (by rw [← ht]; omega), if_pos h1, h2, h3, h4, h5]⟩
  have HIs : Aside0 (commit_Is.f t = some true) := ⟨by
    have hb := M.bt_bs t 0 (by rw [ht, M.bs_sb]; simp [M.cput])
    have e : bt t 0 = 67 := by
      refine hb.trans ?_
      simp [ht, M.bs_sb, M.cput]
    unfold commit_Is.f
    have hs : 0 < t.size := by rw [ht, M.size_sb]; simp [M.cput]
    rw [if_neg (by rw [M.toList_bs]; intro z; rw [← M.bs_length, z] at hs; exact absurd hs (by decide)), if_pos (by omega), e]; rfl⟩
  have HSm : Aside0 (pleachref35_Same.f n ps gr note n ps gr note = some true) := ⟨by unfold pleachref35_Same.f; rw [if_pos (by have := hi.2.1; omega), decide_eq_true ⟨rfl, rfl, rfl, rfl⟩]⟩
  obtain ⟨m, hm⟩ : ∃ m, M.shaSum t = m := ⟨_, rfl⟩
  have hms : m.size ≤ 1000000000000 := by rw [← hm, M.shaSum_size]; decide
  have hput := M.SS.put_first h0 (by omega)
  have hget := M.SS.get_first t ByteArray.empty ByteArray.empty
  rw [hm] at hput hget
  have HPut := Aside0.mk hput
  have HGet := Aside0.mk hget
  have HNI := Aside0.mk hi
  have HTT := Aside0.mk ht
  have hq3 : (t.toList != t.toList) = false := by simp
  have hq4 : (t.toList == t.toList) = true := by simp
  clear hT hr0 hc0 hf hi hput hget ht hm h0
  go_enter Tryd.func4, Tryd.ntmps4
  go_wp2_with (first | ((with_reducible refine gate_dst (N := 11) rfl ?_); (try (refine gate_guard (by rfl) ?_; dsimp only)); refine M.wp_rec_load rfl 24 _ rfl w.heap.size 24 [.int .i64 n, .slice A ps.length c, .string gr, .string note] rfl HC.out _ Tryd.underlying24 rfl commit_Load.size_ ?_) | ((with_reducible refine gate_dst (N := 16) rfl ?_); (try (refine gate_guard (by rfl) ?_; dsimp only)); refine M.wp_rec_load rfl 24 _ rfl w.heap.size 24 [.int .i64 n, .slice A ps.length c, .string gr, .string note] rfl HC.out _ Tryd.underlying24 rfl commit_Load.size_ ?_) | ((with_reducible refine gate_dst (N := 20) rfl ?_); (try (refine gate_guard (by rfl) ?_; dsimp only)); refine M.wp_rec_load rfl 24 _ rfl w.heap.size 24 [.int .i64 n, .slice A ps.length c, .string gr, .string note] rfl HC.out _ Tryd.underlying24 rfl commit_Load.size_ ?_) | ((with_reducible refine gate_dst (N := 25) rfl ?_); (try (refine gate_guard (by rfl) ?_; dsimp only)); refine M.wp_rec_load rfl 24 _ rfl w.heap.size 24 [.int .i64 n, .slice A ps.length c, .string gr, .string note] rfl HC.out _ Tryd.underlying24 rfl commit_Load.size_ ?_) | ((with_reducible refine gate_dst (N := 30) rfl ?_); (try (refine gate_guard (by rfl) ?_; dsimp only)); refine M.wp_rec_load rfl 24 _ rfl w.heap.size 24 [.int .i64 n, .slice A ps.length c, .string gr, .string note] rfl HC.out _ Tryd.underlying24 rfl commit_Load.size_ ?_) | ((with_reducible refine gate_dst (N := 39) rfl ?_); (try (refine gate_guard (by rfl) ?_; dsimp only)); refine M.wp_rec_load rfl 24 _ rfl w.heap.size 24 [.int .i64 n, .slice A ps.length c, .string gr, .string note] rfl HC.out _ Tryd.underlying24 rfl commit_Load.size_ ?_) | ((with_reducible refine gate_dst (N := 68) rfl ?_); (try (refine gate_guard (by rfl) ?_; dsimp only)); refine M.wp_rec_load rfl 24 _ rfl w.heap.size 24 [.int .i64 n, .slice A ps.length c, .string gr, .string note] rfl (M.rec_alloc HC.out _) _ Tryd.underlying24 rfl commit_Load.size_ ?_) | (go_at_call 7; (with_reducible refine (pleachlaw35_few.calls n A c ps gr note true _ (Kd.C_below HRW.out HB.out) HC0.out HF.out).mono ?_); rintro e w1 ⟨rfl, hb⟩; have n0 := Aside0.mk (below_step HB.out hb); have n1 := Aside0.mk (M.rec_below HC.out hb); clear HB HC; have HB := n0; have HC := n1; clear n0 n1; clear hb) | (go_at_call 13; (with_reducible refine (commit_Put.calls n A c ps gr note t 0 _ (Kd.C_below HRW.out HB.out) HC0.out HP.out).mono ?_); rintro e w1 ⟨rfl, hb⟩; have n0 := Aside0.mk (below_step HB.out hb); have n1 := Aside0.mk (M.rec_below HC.out hb); clear HB HC; have HB := n0; have HC := n1; clear n0 n1; clear hb) | (go_at_call 14; (with_reducible refine (pleachref35_Is.calls n A c ps gr note true _ (Kd.C_below HRW.out HB.out) HC0.out HI.out).mono ?_); rintro e w1 ⟨rfl, hb⟩; have n0 := Aside0.mk (below_step HB.out hb); have n1 := Aside0.mk (M.rec_below HC.out hb); clear HB HC; have HB := n0; have HC := n1; clear n0 n1; clear hb) | (go_at_call 15; (with_reducible refine (shelf_New.any _).mono ?_); rintro e wn ⟨g, F, rfl, hs, hb⟩; have HS := Aside0.mk (M.Sh.lower hs (M.rec_lt HC.out)); have n0 := Aside0.mk (below_step HB.out hb); have n1 := Aside0.mk (M.rec_below HC.out hb); clear HB HC; have HB := n0; have HC := n1; clear n0 n1; clear hs hb) | (go_at_call 16; (with_reducible refine (pleachlaw35_CommitPuts.store_ _ g F t m n A c ps gr note _ (Kd.C_below HRW.out HB.out) HC0.out HNI.out HTT.out HS.out (M.stab_below HT.out HB.out hlt.out) hz HPut.out).mono ?_); rintro e w1 ⟨rfl, F2, hs2, hb2⟩; have n0 := Aside0.mk (HB.out.trans (hb2.mono (Nat.le_succ _))); have n1 := Aside0.mk (M.rec_low HC.out hb2 (Nat.lt_succ_self _)); clear HB HC HS; have HB := n0; have HC := n1; have HS := Aside0.mk hs2; clear n0 n1 hs2 hb2) | (go_at_call 17; (with_reducible refine (pleachref35_Put.calls n A c ps gr note t _ (Kd.C_below HRW.out HB.out) HC0.out HQ.out).mono ?_); rintro e w1 ⟨rfl, hb⟩; have n2 := Aside0.mk (HS.out.below hb); clear HS; have HS := n2; clear n2; have n0 := Aside0.mk (below_step HB.out hb); have n1 := Aside0.mk (M.rec_below HC.out hb); clear HB HC; have HB := n0; have HC := n1; clear n0 n1; clear hb) | (go_at_call 18; (with_reducible refine (commit_Check.calls n A c ps gr note 0 _ (Kd.C_below HRW.out HB.out) HC0.out HK.out).mono ?_); rintro e w1 ⟨rfl, hb⟩; have n2 := Aside0.mk (HS.out.below hb); clear HS; have HS := n2; clear n2; have n0 := Aside0.mk (below_step HB.out hb); have n1 := Aside0.mk (M.rec_below HC.out hb); clear HB HC; have HB := n0; have HC := n1; clear n0 n1; clear hb) | (go_at_call 20; (with_reducible refine (commit_Load.good _ g F2 _ m t n ps gr note _ HS.out hms HGet.out HIs.out HTk.out).mono ?_); rintro e w1 ⟨A1, c1, rfl, hR, hb⟩; have HR1 := Aside0.mk hR; have n2 := Aside0.mk (HS.out.below hb); clear HS; have HS := n2; clear n2; have n0 := Aside0.mk (below_step HB.out hb); have n1 := Aside0.mk (M.rec_below HC.out hb); clear HB HC; have HB := n0; have HC := n1; clear n0 n1; clear hR hb) | ((with_reducible refine gate_dst (N := 67) rfl ?_); refine M.wp_rec_load rfl 24 _ rfl w1.heap.size 24 [.int .i64 n, .slice A1 ps.length c1, .string gr, .string note] rfl (M.rec_new w1 24 [.int .i64 n, .slice A1 ps.length c1, .string gr, .string note]) _ Tryd.underlying24 rfl commit_Load.size_ ?_) | (go_at_call 11; (with_reducible refine (pleachref35_Same.calls n A1 c1 ps gr note n A c ps gr note true _ (Kd.R_reads' (Kd.R_alloc HR1.out (.cells #[.int .i64 n, .slice A1 ps.length c1, .string gr, .string note] 24))).2.2 (Kd.R_reads' (Kd.R_alloc HR1.out (.cells #[.int .i64 n, .slice A1 ps.length c1, .string gr, .string note] 24))).2.1 (Kd.C_below HRW.out (below_alloc HB.out (.cells #[.int .i64 n, .slice A1 ps.length c1, .string gr, .string note] 24))) HC0.out HSm.out).mono ?_); rintro e w2 ⟨rfl, hb⟩; have n0 := Aside0.mk (below_step (below_alloc HB.out (.cells #[.int .i64 n, .slice A1 ps.length c1, .string gr, .string note] 24)) hb); have n2 := Aside0.mk ((HS.out.below (below_alloc (Below.refl _ _) (.cells #[.int .i64 n, .slice A1 ps.length c1, .string gr, .string note] 24))).below hb); clear HB HS hb; have HB := n0; have HS := n2; clear n0 n2) | (go_at_call 19; (with_reducible refine (shelf_Shelf_Len.any _ g F2 _ _ HS.out).mono ?_); rintro e w3 ⟨rfl, rfl⟩) | (go_at_call 8; (with_reducible refine (pleachlaw35_awake.walk _ (M.stab_below HT.out HB.out hlt.out)).mono ?_); rintro e w1 ⟨rfl, hb⟩; have n0 := Aside0.mk (below_step HB.out hb); clear HB hb; have HB := n0; clear n0))
  go_ret
  exact ⟨rfl, HB.out⟩
theorem pleachlaw35_CommitPuts.few_some (n : Int) (ps : List ByteArray) (g note : ByteArray) : ∃ b, pleachlaw35_few.f n ps g note = some b := by
  unfold pleachlaw35_few.f
  by_cases h : (ps.length : Int) ≤ 5
  · rw [if_pos h]
    unfold pleachplain_Bytes.f
    rw [if_pos (by omega), Option.bind_some]
    split
    · split <;> exact ⟨_, rfl⟩
    · exact ⟨_, rfl⟩
  · rw [if_neg h]
    exact ⟨_, rfl⟩
theorem pleachlaw35_CommitPuts.calls (a0_0 : Int) (A0_1 : Option Addr) (c0_1 : Nat) (l0_1 : List ByteArray) (a0_2 : ByteArray) (a0_3 : ByteArray) (r : Bool) (w : World) (hr0_1 : Kd.C Kd.string w A0_1 l0_1.length l0_1) (hc0_1 : l0_1.length ≤ c0_1) (hT : M.stab w) (h : pleachlaw35_CommitPuts.f a0_0 l0_1 a0_2 a0_3 = some r) :
    Calls Tryd.prog 4 #[.agg #[.int .i64 a0_0, .slice A0_1 l0_1.length c0_1, .string a0_2, .string a0_3]] w fun e w' => e = .returned (.bool r) ∧ Below w.heap.size w w' := by
  obtain rfl := Option.some.inj h
  obtain ⟨b, hb⟩ := pleachlaw35_CommitPuts.few_some a0_0 l0_1 a0_2 a0_3
  cases b with
  | false => exact pleachlaw35_CommitPuts.out1 A0_1 c0_1 a0_0 l0_1 a0_2 a0_3 w hr0_1 hc0_1 hT hb
  | true =>
    by_cases hi : M.isC a0_0 l0_1 a0_2 a0_3
    · exact pleachlaw35_CommitPuts.good A0_1 c0_1 a0_0 l0_1 a0_2 a0_3 w hr0_1 hc0_1 hT hb hi
    · exact pleachlaw35_CommitPuts.bad A0_1 c0_1 a0_0 l0_1 a0_2 a0_3 w hr0_1 hc0_1 hT hb hi

/-- THE ONE PURE STATEMENT of pleachlaw35_CommitPuts: this session's form. -/
def pleachlaw35_CommitPuts.Pure : Prop := ∀ (a0_0 : Int) (l0_1 : List ByteArray) (a0_2 : ByteArray) (a0_3 : ByteArray), ((Lit.int .i64 a0_0).wf = true) → ((∀ y ∈ l0_1, y.size ≤ 9223372036854775807) ∧ l0_1.length ≤ 9223372036854775807) → (a0_2.size ≤ 9223372036854775807) → (a0_3.size ≤ 9223372036854775807) → pleachlaw35_CommitPuts.f a0_0 l0_1 a0_2 a0_3 = some true
end Go.Proofs.YtikdbklmhjlfoaaDoor.ECommitPuts
