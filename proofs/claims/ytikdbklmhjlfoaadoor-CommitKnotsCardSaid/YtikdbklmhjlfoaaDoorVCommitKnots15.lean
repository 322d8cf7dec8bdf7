-- Laid by this session's own program (wip/tools/fold.py): this session's texts, cut to what the claim names and put together; Lean checks it.
import Derived.Test.YtikdbklmhjlfoaaDoorVCommitKnots1
import Derived.Test.YtikdbklmhjlfoaaDoorVCommitKnots5
import Derived.Test.YtikdbklmhjlfoaaDoorVCommitKnots8
import Derived.Test.YtikdbklmhjlfoaaDoorVCommitKnots9
import Derived.Test.YtikdbklmhjlfoaaDoorVCommitKnots10
import Derived.Test.YtikdbklmhjlfoaaDoorVCommitKnots14
import Derived.Test.YtikdbklmhjlfoaaDoorXCommitKnots1
namespace Go.Proofs.YtikdbklmhjlfoaaDoor.ECommitKnots
open Go.RowKit Go.Proofs.YtikdbklmhjlfoaaDoorW.PrintWords Go.Proofs.YtikdbklmhjlfoaaDoorW.PrintLast Go.Proofs.YtikdbklmhjlfoaaDoorW.PrintMore
attribute [local go_sem] M.run_leq M.run_gtr M.run_geq max2_int min2_int max_two min_two max_three min_three max_four min_four
set_option linter.unusedVariables false
set_option linter.unusedSimpArgs false
def pleachplain_Ints.l0 : Nat → List Int → List Int → Int → Int → Option (Bool)
  | 0, _, _, _, _ => none
  | k + 1, x0, x1, x12, x13 => if x13 < x12 then (if 0 ≤ x13 then (if x13 < (x0.length : Int) then (if x13 < (x1.length : Int) then (if (rd x0 x13) = (rd x1 x13) then (pleachplain_Ints.l0 k x0 x1 x12 (wrap64 (x13 + 1))) else (some false)) else (none)) else (none)) else (none)) else (some true)
def pleachplain_Ints.f (k : Nat) (l0 : List Int) (l1 : List Int) : Option (Bool) := if (l0.length : Int) = (l1.length : Int) then (pleachplain_Ints.l0 k l0 l1 (l0.length : Int) 0) else (some false)
theorem pleachplain_Ints.mono_l : ∀ k, (∀ y0 y1 y2 y3, LeO (pleachplain_Ints.l0 k y0 y1 y2 y3) (pleachplain_Ints.l0 (k + 1) y0 y1 y2 y3))
  | 0 => fun _ _ _ _ r h => by simp [pleachplain_Ints.l0] at h
  | k + 1 => by
    have ih0 := pleachplain_Ints.mono_l k
    · intro y0 y1 y2 y3
      unfold pleachplain_Ints.l0
      repeat' first
      | (with_reducible exact ih0 _ _ _ _)
      | (with_reducible exact LeO.refl _)
      | (with_reducible exact LeO.none _)
      | (with_reducible refine LeO.ite ?_ ?_)
      | (with_reducible refine LeO.bind ?_ (fun _ => ?_))
      | exact ih0 _ _ _ _
      | exact LeO.none _
      | refine LeO.ite ?_ ?_
      | refine LeO.bind ?_ (fun _ => ?_)
theorem pleachplain_Ints.mono : ∀ a0 a1 k, LeO (pleachplain_Ints.f k a0 a1) (pleachplain_Ints.f (k + 1) a0 a1) := by
  intro a0 a1 k
  have ih0 := pleachplain_Ints.mono_l k
  unfold pleachplain_Ints.f
  repeat' first
      | (with_reducible exact ih0 _ _ _ _)
      | (with_reducible exact LeO.refl _)
      | (with_reducible exact LeO.none _)
      | (with_reducible refine LeO.ite ?_ ?_)
      | (with_reducible refine LeO.bind ?_ (fun _ => ?_))
      | exact ih0 _ _ _ _
      | exact LeO.none _
      | refine LeO.ite ?_ ?_
      | refine LeO.bind ?_ (fun _ => ?_)
set_option maxHeartbeats 8000000 in
set_option maxRecDepth 100000 in
theorem pleachplain_Ints.calls (k : Nat) (A0 : Option Addr) (c0 : Nat) (l0 : List Int) (A1 : Option Addr) (c1 : Nat) (l1 : List Int) (r : Bool) (w : World) (hr0 : Kd.C (Kd.int .i64) w A0 l0.length l0) (hc0 : l0.length ≤ c0) (hr1 : Kd.C (Kd.int .i64) w A1 l1.length l1) (hc1 : l1.length ≤ c1) (h : pleachplain_Ints.f k l0 l1 = some r) :
    Calls Tryd.prog 29 #[.slice A0 l0.length c0, .slice A1 l1.length c1] w fun e w' => e = .returned (.bool r) ∧ Drawn0 w w' := by
 have HR0 := Aside0.mk hr0
 have HC0 := Aside0.mk hc0
 clear hr0 hc0
 have HR1 := Aside0.mk hr1
 have HC1 := Aside0.mk hc1
 clear hr1 hc1
 have H : (if (l0.length : Int) = (l1.length : Int) then (pleachplain_Ints.l0 k l0 l1 (l0.length : Int) 0) else (some false)) = some r := h
 clear h
 by_cases c3 : (l0.length : Int) = (l1.length : Int)
 ·rw [if_pos c3] at H
  have c3b0 : ((l0.length : Int) == (l1.length : Int)) = true := beq_iff_eq.mpr c3
  have c3b1 : ((l0.length : Int) != (l1.length : Int)) = false := bne_eq_false_iff_eq.mpr c3
  have c3b2 : (l0.length == l1.length) = true := by first | simpa using c3 | (simp at c3 ⊢; omega)
  clear c3
  have H' := Aside0.mk H
  clear H
  go_enter Tryd.func29, Tryd.ntmps29
  go_wp2
  repeat (go_quiet (fail); try go_wp2)
  go_loopg [13] k (fun kq v13 w' => ∃ (x13_1 : Int), v13 = .int .i64 x13_1 ∧ Aside0 (pleachplain_Ints.l0 kq l0 l1 (l0.length : Int) x13_1 = some r) ∧ Aside0 (kq ≤ k) ∧ Drawn0 w w')
  case atStart => exact ⟨(0), M.eqv, H', ⟨Nat.le_refl _⟩, by repeat (first | exact Drawn0.refl _ | apply Drawn0.step)⟩
  case round =>
   clear H'
   (try clear c1); (try clear c2); (try clear p2); (try clear c3); (try clear c3b0); (try clear c3b1); (try clear c3b2)
   obtain ⟨x13_1, rfl, HA, HK1, ⟨m1, rfl⟩⟩ := hrel
   cases gk with
   | zero => exact absurd HA.out (by simp [pleachplain_Ints.l0])
   | succ k1 =>
    have H := HA.out
    clear HA
    simp only [pleachplain_Ints.l0] at H
    by_cases c4 : x13_1 < (l0.length : Int)
    ·rw [if_pos c4] at H
     have c4b0 := decide_eq_true c4
     clear c4
     by_cases c5 : 0 ≤ x13_1
     ·rw [if_pos c5] at H
      have c5b0 := decide_eq_true c5
      clear c5
      by_cases c6 : x13_1 < (l0.length : Int)
      ·rw [if_pos c6] at H
       have c6b0 := decide_eq_true c6
       clear c6
       by_cases c7 : x13_1 < (l1.length : Int)
       ·rw [if_pos c7] at H
        have c7b0 := decide_eq_true c7
        clear c7
        by_cases c8 : (rd l0 x13_1) = (rd l1 x13_1)
        ·rw [if_pos c8] at H
         have c8b0 : ((rd l0 x13_1) == (rd l1 x13_1)) = true := beq_iff_eq.mpr c8
         have c8b1 : ((rd l0 x13_1) != (rd l1 x13_1)) = false := bne_eq_false_iff_eq.mpr c8
         clear c8
         have H' := Aside0.mk H
         clear H
         have p356 : 0 ≤ (x13_1 : Int) := M.dt
         have q356 : x13_1 < (l0.length : Int) := M.dt
         obtain ⟨ad356, e356, hx356_0⟩ := Kd.at_int HR0.out x13_1 p356 q356
         cases e356
         replace p356 := eq_true p356
         replace q356 := eq_true q356
         have p357 : 0 ≤ (x13_1 : Int) := M.dt
         have q357 : x13_1 < (l1.length : Int) := M.dt
         obtain ⟨ad357, e357, hx357_0⟩ := Kd.at_int HR1.out x13_1 p357 q357
         cases e357
         replace p357 := eq_true p357
         replace q357 := eq_true q357
         go_wp2
         repeat (go_quiet (fail); try go_wp2)
         go_roundg k1
         case measure => have := HK1.out; omega
         case rel => exact ⟨(wrap64 (x13_1 + 1)), M.eqv, H', ⟨by have := HK1.out; omega⟩, by repeat (first | exact Drawn0.refl _ | apply Drawn0.step)⟩
        ·rw [if_neg c8] at H
         have c8b0 : ((rd l0 x13_1) == (rd l1 x13_1)) = false := beq_eq_false_iff_ne.mpr c8
         have c8b1 : ((rd l0 x13_1) != (rd l1 x13_1)) = true := bne_iff_ne.mpr c8
         obtain rfl := Option.some.inj H
         have p356 : 0 ≤ (x13_1 : Int) := M.dt
         have q356 : x13_1 < (l0.length : Int) := M.dt
         obtain ⟨ad356, e356, hx356_0⟩ := Kd.at_int HR0.out x13_1 p356 q356
         cases e356
         replace p356 := eq_true p356
         replace q356 := eq_true q356
         have p357 : 0 ≤ (x13_1 : Int) := M.dt
         have q357 : x13_1 < (l1.length : Int) := M.dt
         obtain ⟨ad357, e357, hx357_0⟩ := Kd.at_int HR1.out x13_1 p357 q357
         cases e357
         replace p357 := eq_true p357
         replace q357 := eq_true q357
         go_wp2
         repeat (go_quiet (fail); try go_wp2)
         go_ret
         exact ⟨by first | rfl | (simp; done) | (simp [*]; done), by repeat (first | exact Drawn0.refl _ | apply Drawn0.step)⟩
       ·exact M.nf c7 H
      ·exact M.nf c6 H
     ·exact M.nf c5 H
    ·rw [if_neg c4] at H
     have c4b0 := decide_eq_false c4
     clear c4
     obtain rfl := Option.some.inj H
     go_wp2
     repeat (go_quiet (fail); try go_wp2)
     go_ret
     exact ⟨by first | rfl | (simp; done) | (simp [*]; done), by repeat (first | exact Drawn0.refl _ | apply Drawn0.step)⟩
 ·rw [if_neg c3] at H
  have c3b0 : ((l0.length : Int) == (l1.length : Int)) = false := beq_eq_false_iff_ne.mpr c3
  have c3b1 : ((l0.length : Int) != (l1.length : Int)) = true := bne_iff_ne.mpr c3
  have c3b2 : (l0.length == l1.length) = false := by first | simpa using c3 | (simp at c3 ⊢; omega)
  obtain rfl := Option.some.inj H
  go_enter Tryd.func29, Tryd.ntmps29
  go_wp2
  repeat (go_quiet (fail); try go_wp2)
  go_ret
  exact ⟨by first | rfl | (simp; done) | (simp [*]; done), by repeat (first | exact Drawn0.refl _ | apply Drawn0.step)⟩
def pleachlaw35_CommitKnots.f (l0 l1 : List ByteArray) : Option Bool := some true
theorem pleachlaw35_CommitKnots.few_ (s : M.SS) (l : List ByteArray) {nl : List ByteArray} {al : List S62} {er : Int} (h : commit_Knots.res s l = (al, nl, er)) (hl : s.ts.length ≤ 1000000) : nl.length ≤ 1000000000 ∧ al.length ≤ 1000000000 := by
 obtain ⟨⟨ns, cs, e0⟩, hb⟩ : ∃ y, commit_Back.res s l = y := ⟨_, rfl⟩
 unfold commit_Knots.res at h
 simp only [hb] at h
 split at h
 ·rename_i h0
  subst h0
  have hg := commit_Knots.good s l hb
  have hn := M.srt_len (commit_Knots.ns cs)
  have hc : (commit_Knots.ns cs).length = cs.length := by simp [commit_Knots.ns]
  have hf := hg.few
  split at h
  ·injection h with h1 h; injection h with h2 _; subst h1; subst h2
   rw [List.length_map, List.length_map]
   exact ⟨by omega, by omega⟩
  ·injection h with h1 h; injection h with h2 _; subst h1; subst h2; exact ⟨Nat.zero_le _, Nat.zero_le _⟩
 ·injection h with h1 h; injection h with h2 _; subst h1; subst h2; exact ⟨Nat.zero_le _, Nat.zero_le _⟩
theorem pleachlaw35_CommitKnots.pl_ (s : M.SS) (l : List ByteArray) {nl : List ByteArray} {al : List S62} {er : Int} (h : commit_Knots.res s l = (al, nl, er)) {c : S62} (hc : c ∈ al) : c.f1.length ≤ 1000 := by
 obtain ⟨⟨ns, cs, e0⟩, hb⟩ : ∃ y, commit_Back.res s l = y := ⟨_, rfl⟩
 unfold commit_Knots.res at h
 simp only [hb] at h
 split at h
 ·rename_i h0
  subst h0
  have hg := commit_Knots.good s l hb
  split at h
  ·injection h with h1 h
   subst h1
   obtain ⟨n, hn, rfl⟩ := List.mem_map.1 hc
   have hm := (M.mem_srt n _).1 hn
   have hlt := (M.fst_spec hm).1
   have hc2 : (commit_Knots.ns cs).length = cs.length := by simp [commit_Knots.ns]
   rw [hc2] at hlt
   show ((cs.getD (M.fst_ (commit_Knots.ns cs) n) z24).f1.map (commit_Back.num s)).length ≤ 1000
   rw [List.length_map, show cs.getD (M.fst_ (commit_Knots.ns cs) n) z24 = cs[M.fst_ (commit_Knots.ns cs) n] from by simp [List.getD, hlt]]
   exact Nat.le_trans (hg.pos _ (List.getElem_mem hlt)).2.2.1 (by decide)
  ·injection h with h1 h; subst h1; exact absurd hc List.not_mem_nil
 ·injection h with h1 h; subst h1; exact absurd hc List.not_mem_nil
theorem pleachlaw35_CommitKnots.b1 {base g : Nat} {F : Nat → Prop} {s : M.SS} {A : Option Addr} {c : Nat} {names : List ByteArray} {w : World} {nl : List ByteArray} {al : List S62} {er : Int} (hS : M.Sh Tryd.prog base w g F s) (hts : ∀ t ∈ s.ts, t.size ≤ 1000000000000) (hl : s.ts.length ≤ 1000000) (hn : Kd.C Kd.string w A names.length names) (hz : ∀ n ∈ names, n.size ≤ 1000000000000) (h : commit_Knots.res s names = (al, nl, er)) :
    Calls Tryd.prog 27 #[.pointer (some ⟨g, 0, none⟩), .slice A names.length c] w fun e w' => ∃ Y y X x, e = .returned (.tuple #[.slice Y al.length y, .slice X nl.length x, .int .i64 er]) ∧ Kd.R k62 62 w' w.heap.size (fun _ => True) (.slice Y al.length y) al ∧ Kd.R Kd.string 9 w' w.heap.size (fun _ => True) (.slice X nl.length x) nl ∧ Below w.heap.size w w' := by
 have := commit_Knots.any base g F s A c names w hS hts hl hn hz
 rw [h] at this
 refine this.mono ?_
 rintro e w' ⟨v1, v2, rfl, h1, h2, hb⟩
 obtain ⟨X, x, rfl⟩ := Kd.R_slice h1
 obtain ⟨Y, y, rfl⟩ := Kd.R_slice h2
 exact ⟨X, x, Y, y, rfl, h1, h2, hb⟩
theorem pleachlaw35_CommitKnots.b2 {base g : Nat} {F : Nat → Prop} {s q : M.SS} {E0 E1 A : Option Addr} {d0 d1 c : Nat} {names : List ByteArray} {w : World} {nl : List ByteArray} {al : List S62} {er : Int} (hS : M.Two Tryd.prog base w g F s q E0 E1 d0 d1) (hl : q.ts.length ≤ 1000000) (hts : ∀ t ∈ q.ts, t.size ≤ 1000000000000) (hn : Kd.C Kd.string w A names.length names) (h : commit_Knots.res q names = (al, nl, er)) :
    Calls Tryd.prog 28 #[.agg #[.slice E0 q.ts.length d0, .slice E1 q.ts.length d1, .string q.a, .string q.b], .slice A names.length c] w fun e w' => ∃ Y y X x, e = .returned (.tuple #[.slice Y al.length y, .slice X nl.length x, .int .i64 er]) ∧ Kd.R k62 62 w' w.heap.size (fun _ => True) (.slice Y al.length y) al ∧ Kd.R Kd.string 9 w' w.heap.size (fun _ => True) (.slice X nl.length x) nl ∧ Below w.heap.size w w' := by
 have := pleachref35_Knots.any q E0 E1 d0 d1 A c names w hS.r0 hS.h0 hS.o1.now hS.h1 hl hts hn
 rw [h] at this
 refine this.mono ?_
 rintro e w' ⟨v1, v2, rfl, h1, h2, hb⟩
 obtain ⟨X, x, rfl⟩ := Kd.R_slice h1
 obtain ⟨Y, y, rfl⟩ := Kd.R_slice h2
 exact ⟨X, x, Y, y, rfl, h1, h2, hb⟩
set_option maxHeartbeats 8000000 in
set_option maxRecDepth 100000 in
theorem pleachlaw35_CommitKnots.out0 (A0 : Option Addr) (c0 : Nat) (l0 : List ByteArray) (A1 : Option Addr) (c1 : Nat) (l1 : List ByteArray) (w : World) (hr0 : Kd.C Kd.string w A0 l0.length l0) (hc0 : l0.length ≤ c0) (hr1 : Kd.C Kd.string w A1 l1.length l1) (hc1 : l1.length ≤ c1) (hT : M.stab w)  (g0 : 30 < l0.length) :
    Calls Tryd.prog 6 #[.slice A0 l0.length c0, .slice A1 l1.length c1] w fun e w' => e = .returned (.bool true) ∧ Below w.heap.size w w' := by
 have HT := Aside0.mk hT
 have HR0 := Aside0.mk hr0
 have HR1 := Aside0.mk hr1
 have hlt := Aside0.mk (M.stab_lt hT)
 have d0 : decide ((30 : Int) < (l0.length : Int)) = true := decide_eq_true (by omega)
 clear hr0 hr1 hT
 go_enter Tryd.func6, Tryd.ntmps6
 go_wp2_with (first | (go_at_call 8; (with_reducible refine (pleachlaw35_awake.walk _ HT.out).mono ?_); rintro e w9 ⟨rfl, hb9⟩; have HB9 := Aside0.mk hb9; clear hb9))
 go_ret
 exact ⟨rfl, HB9.out⟩
set_option maxHeartbeats 8000000 in
set_option maxRecDepth 100000 in
theorem pleachlaw35_CommitKnots.out1 (A0 : Option Addr) (c0 : Nat) (l0 : List ByteArray) (A1 : Option Addr) (c1 : Nat) (l1 : List ByteArray) (w : World) (hr0 : Kd.C Kd.string w A0 l0.length l0) (hc0 : l0.length ≤ c0) (hr1 : Kd.C Kd.string w A1 l1.length l1) (hc1 : l1.length ≤ c1) (hT : M.stab w) (g0 : l0.length ≤ 30) (g1 : 5000 < M.bytesN 0 l0) :
    Calls Tryd.prog 6 #[.slice A0 l0.length c0, .slice A1 l1.length c1] w fun e w' => e = .returned (.bool true) ∧ Below w.heap.size w w' := by
 have HT := Aside0.mk hT
 have HR0 := Aside0.mk hr0
 have HR1 := Aside0.mk hr1
 have hlt := Aside0.mk (M.stab_lt hT)
 have HF0 : Aside0 (pleachplain_Bytes.f l0 = some ((M.bytesN 0 l0 : Nat) : Int)) := ⟨if_pos (by omega)⟩
 generalize M.bytesN 0 l0 = n0 at g1 HF0
 have d0 : decide ((30 : Int) < (l0.length : Int)) = false := decide_eq_false (by omega)
 have d1 : decide ((5000 : Int) < (n0 : Int)) = true := decide_eq_true (by omega)
 clear hr0 hr1 hT
 go_enter Tryd.func6, Tryd.ntmps6
 go_wp2_with (first | (go_at_call 21; (with_reducible refine (pleachplain_Bytes.calls A0 c0 l0 (n0 : Int) _ HR0.out hc0 HF0.out).mono ?_); rintro e w1 ⟨rfl, hb1⟩; have HB1 := Aside0.mk hb1; have HT1 := Aside0.mk (M.stab_below HT.out hb1 hlt.out); have HR11 := Aside0.mk (Kd.C_below HR1.out hb1); clear hb1) | (go_at_call 8; (with_reducible refine (pleachlaw35_awake.walk _ HT1.out).mono ?_); rintro e w9 ⟨rfl, hb9⟩; have HB9 := Aside0.mk (below_step HB1.out hb9); clear hb9))
 go_ret
 exact ⟨rfl, HB9.out⟩
set_option maxHeartbeats 8000000 in
set_option maxRecDepth 100000 in
theorem pleachlaw35_CommitKnots.out2 (A0 : Option Addr) (c0 : Nat) (l0 : List ByteArray) (A1 : Option Addr) (c1 : Nat) (l1 : List ByteArray) (w : World) (hr0 : Kd.C Kd.string w A0 l0.length l0) (hc0 : l0.length ≤ c0) (hr1 : Kd.C Kd.string w A1 l1.length l1) (hc1 : l1.length ≤ c1) (hT : M.stab w) (g0 : l0.length ≤ 30) (g1 : M.bytesN 0 l0 ≤ 5000) (g2 : 5 < l1.length) :
    Calls Tryd.prog 6 #[.slice A0 l0.length c0, .slice A1 l1.length c1] w fun e w' => e = .returned (.bool true) ∧ Below w.heap.size w w' := by
 have HT := Aside0.mk hT
 have HR0 := Aside0.mk hr0
 have HR1 := Aside0.mk hr1
 have hlt := Aside0.mk (M.stab_lt hT)
 have HF0 : Aside0 (pleachplain_Bytes.f l0 = some ((M.bytesN 0 l0 : Nat) : Int)) := ⟨if_pos (by omega)⟩
 generalize M.bytesN 0 l0 = n0 at g1 HF0
 have d0 : decide ((30 : Int) < (l0.length : Int)) = false := decide_eq_false (by omega)
 have d1 : decide ((5000 : Int) < (n0 : Int)) = false := decide_eq_false (by omega)
 have d2 : decide ((5 : Int) < (l1.length : Int)) = true := decide_eq_true (by omega)
 clear hr0 hr1 hT
 go_enter Tryd.func6, Tryd.ntmps6
 go_wp2_with (first | (go_at_call 21; (with_reducible refine (pleachplain_Bytes.calls A0 c0 l0 (n0 : Int) _ HR0.out hc0 HF0.out).mono ?_); rintro e w1 ⟨rfl, hb1⟩; have HB1 := Aside0.mk hb1; have HT1 := Aside0.mk (M.stab_below HT.out hb1 hlt.out); have HR11 := Aside0.mk (Kd.C_below HR1.out hb1); clear hb1) | (go_at_call 8; (with_reducible refine (pleachlaw35_awake.walk _ HT1.out).mono ?_); rintro e w9 ⟨rfl, hb9⟩; have HB9 := Aside0.mk (below_step HB1.out hb9); clear hb9))
 go_ret
 exact ⟨rfl, HB9.out⟩
set_option maxHeartbeats 8000000 in
set_option maxRecDepth 100000 in
theorem pleachlaw35_CommitKnots.out3 (A0 : Option Addr) (c0 : Nat) (l0 : List ByteArray) (A1 : Option Addr) (c1 : Nat) (l1 : List ByteArray) (w : World) (hr0 : Kd.C Kd.string w A0 l0.length l0) (hc0 : l0.length ≤ c0) (hr1 : Kd.C Kd.string w A1 l1.length l1) (hc1 : l1.length ≤ c1) (hT : M.stab w) (g0 : l0.length ≤ 30) (g1 : M.bytesN 0 l0 ≤ 5000) (g2 : l1.length ≤ 5) (g3 : 500 < M.bytesN 0 l1) :
    Calls Tryd.prog 6 #[.slice A0 l0.length c0, .slice A1 l1.length c1] w fun e w' => e = .returned (.bool true) ∧ Below w.heap.size w w' := by
 have HT := Aside0.mk hT
 have HR0 := Aside0.mk hr0
 have HR1 := Aside0.mk hr1
 have hlt := Aside0.mk (M.stab_lt hT)
 have HF0 : Aside0 (pleachplain_Bytes.f l0 = some ((M.bytesN 0 l0 : Nat) : Int)) := ⟨if_pos (by omega)⟩
 have HF1 : Aside0 (pleachplain_Bytes.f l1 = some ((M.bytesN 0 l1 : Nat) : Int)) := ⟨if_pos (by omega)⟩
 generalize M.bytesN 0 l0 = n0 at g1 HF0
 generalize M.bytesN 0 l1 = n1 at g3 HF1
 have d0 : decide ((30 : Int) < (l0.length : Int)) = false := decide_eq_false (by omega)
 have d1 : decide ((5000 : Int) < (n0 : Int)) = false := decide_eq_false (by omega)
 have d2 : decide ((5 : Int) < (l1.length : Int)) = false := decide_eq_false (by omega)
 have d3 : decide ((500 : Int) < (n1 : Int)) = true := decide_eq_true (by omega)
 clear hr0 hr1 hT
 go_enter Tryd.func6, Tryd.ntmps6
 go_wp2_with (first | (go_at_call 21; (with_reducible refine (pleachplain_Bytes.calls A0 c0 l0 (n0 : Int) _ HR0.out hc0 HF0.out).mono ?_); rintro e w1 ⟨rfl, hb1⟩; have HB1 := Aside0.mk hb1; have HT1 := Aside0.mk (M.stab_below HT.out hb1 hlt.out); have HR11 := Aside0.mk (Kd.C_below HR1.out hb1); clear hb1) | (go_at_call 21; (with_reducible refine (pleachplain_Bytes.calls A1 c1 l1 (n1 : Int) _ HR11.out hc1 HF1.out).mono ?_); rintro e w2 ⟨rfl, hb2⟩; have HB2 := Aside0.mk (below_step HB1.out hb2); have HT2 := Aside0.mk (M.stab_below HT.out HB2.out hlt.out); clear hb2) | (go_at_call 8; (with_reducible refine (pleachlaw35_awake.walk _ HT2.out).mono ?_); rintro e w9 ⟨rfl, hb9⟩; have HB9 := Aside0.mk (below_step HB2.out hb9); clear hb9))
 go_ret
 exact ⟨rfl, HB9.out⟩
theorem pleachlaw35_CommitKnots.sp {W : World} {base g : Nat} {F : Nat → Prop} {s s1 q : M.SS} {A0 A1 : Option Addr} {c0 c1 : Nat} {t nm : ByteArray} {er : Int} (h : M.Two Tryd.prog base W g F s q A0 A1 c0 c1) (hT : M.stab W) (hts : s.ts.length ≤ 1000000) (hz : t.size ≤ 1000000) (hp : s.put t = (nm, er, s1)) :
    Calls Tryd.prog 23 #[.pointer (some ⟨g, 0, none⟩), .string t] W fun e w' => e = .returned (.tuple #[.string nm, .int .i64 er]) ∧ ∃ F1, M.Two Tryd.prog base w' g F1 s1 q A0 A1 c0 c1 ∧ (∀ k, F1 k → F k ∨ W.heap.size ≤ k) ∧ Kept W w' F ∧ Below base W w' := by
 have := shelf_Shelf_Put.any base g F s t W h.sh hT (by omega) (by omega)
 rw [hp] at this
 refine this.mono ?_
 rintro e w' ⟨rfl, hs⟩
 exact ⟨rfl, h.shelf hs⟩
theorem pleachlaw35_CommitKnots.mem_ (l : List ByteArray) : ∀ x ∈ (pleachref16_Of.s l).ts, x ∈ l := by
 have key : ∀ (l : List ByteArray) (q : M.SS), ∀ x ∈ (l.foldl (fun q t => (q.put t).2.2) q).ts, x ∈ q.ts ∨ x ∈ l := by
  intro l
  induction l with
  | nil => intro q x hx; exact .inl hx
  | cons t l ih =>
   intro q x hx
   rw [List.foldl_cons] at hx
   rcases ih _ x hx with h | h
   ·exact (M.SS.put_mem q t x h).imp id (fun e => by rw [e]; exact List.mem_cons_self)
   ·exact .inr (List.mem_cons_of_mem _ h)
 intro x hx
 exact (key l M.SS.none_ x hx).resolve_left (fun h => absurd h List.not_mem_nil)
theorem pleachlaw35_CommitKnots.two {base B g : Nat} {W w4 : World} {F : Nat → Prop} {q : M.SS} {E0 E1 : Option Addr} {d0 d1 : Nat} (hs : M.Sh Tryd.prog base W g F M.SS.none_) (hb : Below W.heap.size W w4) (h0 : Kd.R Kd.string 9 w4 W.heap.size (fun _ => True) (.slice E0 q.ts.length d0) q.ts) (h1 : Kd.R Kd.string 9 w4 W.heap.size (fun _ => True) (.slice E1 q.ts.length d1) (q.ts.map M.shaSum)) :
    M.Two Tryd.prog base w4 g F M.SS.none_ q E0 E1 d0 d1 := by
 refine ⟨hs.below hb, M.Off.of_R h0 hs.lt, ?_, (Kd.R_reads' h0).2.1, ?_⟩
 ·have := M.Off.of_R h1 hs.lt
  rwa [List.length_map] at this
 ·exact (Kd.R_reads' h1).2.1
theorem pleachlaw35_CommitKnots.ints (l : List Int) (hl : l.length ≤ 1000) : pleachplain_Ints.f (l.length + 1) l l = some true := by
 have loop : ∀ (d i : Nat), i + d = l.length → pleachplain_Ints.l0 (d + 1) l l (l.length : Int) (i : Int) = some true := by
  intro d
  induction d with
  | zero =>
   intro i hi
   rw [pleachplain_Ints.l0, if_neg (by omega)]
  | succ d ih =>
   intro i hi
   rw [pleachplain_Ints.l0, if_pos (by omega), if_pos (by omega), if_pos (by omega), if_pos (by omega), if_pos rfl, M.wrap64_id (by omega) (by omega), show (i : Int) + 1 = ((i + 1 : Nat) : Int) from by omega, ih (i + 1) (by omega)]
 unfold pleachplain_Ints.f
 rw [if_pos rfl]
 exact loop l.length 0 (by omega)
theorem pleachlaw35_CommitKnots.eqi (l : List Int) (X Y : Option Addr) (x y : Nat) (W : World) (h1 : Kd.C (Kd.int .i64) W X l.length l) (hx : l.length ≤ x) (h2 : Kd.C (Kd.int .i64) W Y l.length l) (hy : l.length ≤ y) (hl : l.length ≤ 1000) :
    Calls Tryd.prog 29 #[.slice X l.length x, .slice Y l.length y] W fun e w' => e = .returned (.bool true) ∧ Below W.heap.size W w' := by
 refine (pleachplain_Ints.calls _ X x l Y y l true W h1 hx h2 hy (pleachlaw35_CommitKnots.ints l hl)).mono ?_
 rintro e w' ⟨rfl, hd⟩
 exact ⟨rfl, hd.below⟩
theorem pleachlaw35_CommitKnots.eqt (l : List ByteArray) (X Y : Option Addr) (x y : Nat) (W : World) {b1 b2 : Nat} (h1 : Kd.R Kd.string 9 W b1 (fun _ => True) (.slice X l.length x) l) (h2 : Kd.R Kd.string 9 W b2 (fun _ => True) (.slice Y l.length y) l) (hl : l.length ≤ 1000000000) :
    Calls Tryd.prog 26 #[.slice X l.length x, .slice Y l.length y] W fun e w' => e = .returned (.bool true) ∧ Below W.heap.size W w' := by
 refine (pleachplain_Texts.calls X x l Y y l true W (Kd.R_reads' h1).2.2 (Kd.R_reads' h1).2.1 (Kd.R_reads' h2).2.2 (Kd.R_reads' h2).2.1 (by unfold pleachplain_Texts.f; rw [if_pos (by omega)]; simp)).mono ?_
 rintro e w' ⟨rfl, hd⟩
 exact ⟨rfl, hd.below⟩
theorem pleachlaw35_CommitKnots.at_ {W : World} {b q : Nat} {X : Option Addr} {x : Nat} {al : List S62} (h : Kd.R k62 62 W b (fun _ => True) (.slice X al.length x) al) (hq : q < al.length) : ∃ ad B d, X = some ad ∧ W.cell? (ad.add (q * 2)) = some (.int .i64 (al[q]).f0) ∧ W.cell? ⟨(ad.add (q * 2)).block, (ad.add (q * 2)).off + 1, none⟩ = some (.slice B (al[q]).f1.length d) ∧ (al[q]).f1.length ≤ d ∧ Kd.C (Kd.int .i64) W B (al[q]).f1.length (al[q]).f1 := by
 obtain ⟨ad, B, d, he, e0, e1, hl, hC⟩ := at_T62 (Kd.R_reads' h).2.2 (q : Int) (by omega) (by omega)
 have hrd : rd_T62 al (q : Int) = al[q] := by simp [rd_T62, List.getD, hq]
 rw [hrd, Int.toNat_natCast] at e0 e1
 rw [hrd] at hl hC
 exact ⟨ad, B, d, he, e0, e1, hl, hC⟩
def pleachlaw35_CommitKnots.T18 : Bool × List (List Nat × List Nat) := (true, [([], []), ([], []), ([0, 1], [0, 1]), ([2], [2]), ([3], [3]), ([], []), ([], []), ([5, 6], [5, 6]), ([7], [7]), ([8], [8]), ([4, 9], [4, 9]), ([10], [10]), ([11], [11]), ([11], [11]), ([12, 13, 11], [11, 12, 13]), ([14, 11], [11, 14]), ([15, 11], [11, 15]), ([11], [11]), ([11], [11]), ([17, 18, 11], [11, 17, 18]), ([19, 11], [11, 19]), ([20, 11], [11, 20]), ([16, 21, 11, 11], [11, 16, 21]), ([22, 11], [11, 22]), ([11, 23], [11, 23])])
def pleachlaw35_CommitKnots.B18 : List Nat := [0, 0, 3, 7, 15, 0, 0, 96, 224, 480, 1023, 2047, 4095, 4095, 16383, 32767, 65535, 4095, 4095, 397311, 921599, 1970175, 4194303, 8388607, 16777215]
theorem pleachlaw35_CommitKnots.tab18 : rtab .any (opsOf Tryd.f6 18) = pleachlaw35_CommitKnots.T18 := by kernel_rfl
theorem pleachlaw35_CommitKnots.bits18 : waitsOk pleachlaw35_CommitKnots.T18.2 pleachlaw35_CommitKnots.B18 = true := by kernel_rfl
set_option maxHeartbeats 8000000 in
set_option maxRecDepth 100000 in
theorem pleachlaw35_CommitKnots.in_ (A0 : Option Addr) (c0 : Nat) (l0 : List ByteArray) (A1 : Option Addr) (c1 : Nat) (l1 : List ByteArray) (w : World) (hr0 : Kd.C Kd.string w A0 l0.length l0) (hc0 : l0.length ≤ c0) (hr1 : Kd.C Kd.string w A1 l1.length l1) (hc1 : l1.length ≤ c1) (hT : M.stab w) (g0 : l0.length ≤ 30) (g1 : M.bytesN 0 l0 ≤ 5000) (g2 : l1.length ≤ 5) (g3 : M.bytesN 0 l1 ≤ 500) :
    Calls Tryd.prog 6 #[.slice A0 l0.length c0, .slice A1 l1.length c1] w fun e w' => e = .returned (.bool true) ∧ Below w.heap.size w w' := by
 have HT := Aside0.mk hT
 have HR0 := Aside0.mk hr0
 have HR1 := Aside0.mk hr1
 have hlt := Aside0.mk (M.stab_lt hT)
 have HF0 : Aside0 (pleachplain_Bytes.f l0 = some ((M.bytesN 0 l0 : Nat) : Int)) := ⟨if_pos (by omega)⟩
 have HF1 : Aside0 (pleachplain_Bytes.f l1 = some ((M.bytesN 0 l1 : Nat) : Int)) := ⟨if_pos (by omega)⟩
 have HZ0 := Aside0.mk (fun x hx => Nat.le_trans (M.bytesN_each l0 0 (by omega) x hx) g1)
 have HZ1 := Aside0.mk (fun x hx => Nat.le_trans (M.bytesN_each l1 0 (by omega) x hx) g3)
 generalize M.bytesN 0 l0 = n0 at g1 HF0
 generalize M.bytesN 0 l1 = n1 at g3 HF1
 have d0 : decide ((30 : Int) < (l0.length : Int)) = false := decide_eq_false (by omega)
 have d1 : decide ((5000 : Int) < (n0 : Int)) = false := decide_eq_false (by omega)
 have d2 : decide ((5 : Int) < (l1.length : Int)) = false := decide_eq_false (by omega)
 have d3 : decide ((500 : Int) < (n1 : Int)) = false := decide_eq_false (by omega)
 clear hr0 hr1 hT
 go_enter Tryd.func6, Tryd.ntmps6
 go_wp2_with (first | (go_at_call 21; (with_reducible refine (pleachplain_Bytes.calls A0 c0 l0 (n0 : Int) _ HR0.out hc0 HF0.out).mono ?_); rintro e w1 ⟨rfl, hb1⟩; have HB1 := Aside0.mk hb1; have HT1 := Aside0.mk (M.stab_below HT.out hb1 hlt.out); have HR11 := Aside0.mk (Kd.C_below HR1.out hb1); clear hb1) | (go_at_call 21; (with_reducible refine (pleachplain_Bytes.calls A1 c1 l1 (n1 : Int) _ HR11.out hc1 HF1.out).mono ?_); rintro e w2 ⟨rfl, hb2⟩; have HB2 := Aside0.mk (below_step HB1.out hb2); have HT2 := Aside0.mk (M.stab_below HT.out HB2.out hlt.out); clear hb2) | (go_at_call 15; (with_reducible refine (shelf_New.any _).mono ?_); rintro e w3 ⟨g, F, rfl, hs3, hb3⟩; have HS3 := Aside0.mk (M.Sh.lower hs3 HB2.out.size); have HB3 := Aside0.mk (below_step HB2.out hb3); have HR03 := Aside0.mk (Kd.C_below HR0.out HB3.out); clear hs3 hb3) | (go_at_call 22; (with_reducible refine (pleachref16_Of.any A0 c0 l0 _ HR03.out (by omega)).mono ?_); rintro e w4 ⟨E0, E1, d0_, d1_, rfl, hv0, hv1, hb4⟩; have H24 := Aside0.mk (pleachlaw35_CommitKnots.two (B := 0) HS3.out hb4 hv0 hv1); have HB4 := Aside0.mk (below_step HB3.out hb4); clear hv0 hv1 hb4) | ((with_reducible refine gate_store (t := 46) (p := 6) (v := .tmp 39) rfl ?_); refine M.wp_rec_store rfl 46 _ _ rfl w4.heap.size 46 [.slice none 0 0, .slice none 0 0, .string ⟨#[]⟩, .string ⟨#[]⟩] [.slice E0 (pleachref16_Of.s l0).ts.length d0_, .slice E1 (pleachref16_Of.s l0).ts.length d1_, .string (pleachref16_Of.s l0).a, .string (pleachref16_Of.s l0).b] rfl rfl (M.rec_new w4 46 [.slice none 0 0, .slice none 0 0, .string ⟨#[]⟩, .string ⟨#[]⟩]) rfl pleachref16_Put.size_ rfl ?_; intro w5 hA5 hF5 hB5 hz5; have hy := hB5 w4.heap.size w4 (Nat.le_refl _) (below_alloc (Below.refl _ _) _); have HC5 := Aside0.mk hA5; have H25 := Aside0.mk (H24.out.below hy); have HB5 := Aside0.mk (below_step HB4.out hy); clear hA5 hF5 hB5 hz5 hy))
 have HG4 := Aside0.mk (H24.out.sh.lt)
 go_loopg [42] (l0.length) (fun kq v42 wr => ∃ (k : Nat) (F : Nat → Prop) (s : M.SS), v42 = .int .i64 (k : Int) ∧ k ≤ l0.length ∧ Aside0 (kq = l0.length - k) ∧ Aside0 (s = pleachref16_Of.s (l0.take k)) ∧ Aside0 (Below w.heap.size w wr) ∧ Aside0 (M.rec_ wr w4.heap.size 46 [.slice E0 (pleachref16_Of.s l0).ts.length d0_, .slice E1 (pleachref16_Of.s l0).ts.length d1_, .string (pleachref16_Of.s l0).a, .string (pleachref16_Of.s l0).b]) ∧ Aside0 (M.Two Tryd.prog w.heap.size wr g F s (pleachref16_Of.s l0) E0 E1 d0_ d1_) ∧ Aside0 (¬ F w4.heap.size))
 case atStart => exact ⟨0, F, M.SS.none_, rfl, Nat.zero_le _, ⟨rfl⟩, ⟨rfl⟩, HB5, HC5, H25, ⟨fun q => by have := HG4.out _ q; omega⟩⟩
 case round =>
  clear HS3 HB3 HR03 H24 HB4 HC5 H25 HB5 HG4
  obtain ⟨k, F, s, rfl, hk, hkq, HQ, HB, HC, H2, HNF⟩ := hrel
  obtain ⟨W1, rfl⟩ : ∃ x, x = wr := ⟨_, rfl⟩
  have HLN := Aside0.mk (show s.ts.length ≤ 30 from by rw [HQ.out]; have := pleachref16_Of.len (l0.take k); rw [List.length_take] at this; omega)
  by_cases hlt2 : k < l0.length
  ·obtain ⟨t, ht⟩ : ∃ t, l0[k] = t := ⟨_, rfl⟩
   have htz : t.size ≤ 1000000 := Nat.le_trans (ht ▸ HZ0.out _ (List.getElem_mem hlt2)) (by decide)
   obtain ⟨⟨nm, er, s1⟩, hp⟩ : ∃ y, s.put t = y := ⟨_, rfl⟩
   have HP := Aside0.mk hp
   have HQ1 := Aside0.mk (show s1 = pleachref16_Of.s (l0.take (k + 1)) from by rw [pleachref16_Of.snoc l0 k hlt2, ← HQ.out, ht, hp])
   obtain ⟨ad, hAL, e0⟩ := Kd.at_string HR0.out (k : Int) (by omega) (by omega)
   rw [show rdOf ByteArray.empty l0 (k : Int) = t from by rw [← ht]; simp [rdOf, List.getD, hlt2], Int.toNat_natCast] at e0
   subst hAL
   have q0 := (HB.out.cell (World.block_lt_of_cell? w _ e0)).trans e0
   have p1 : (k : Int) < (l0.length : Int) := by omega
   have p2 : (0 : Int) ≤ (k : Int) := by omega
   have p3 := decide_eq_true p1
   have HT4 := Aside0.mk (M.stab_below HT.out HB.out hlt.out)
   have HZ5 := Aside0.mk (M.rec_lt HC.out)
   clear e0 hp ht
   by_cases h15 : er = 15
   ·subst h15
    go_wp2_with (first | (go_at_call 23; (with_reducible refine (pleachlaw35_CommitKnots.sp H2.out HT4.out ?h1 htz HP.out).mono ?_); (case h1 => have := HLN.out; omega); rintro e w6 ⟨rfl, F1, h26, hf6, hk6, hb6⟩; have H26 := Aside0.mk h26; have HC6 := Aside0.mk (M.rec_kept HC.out hk6 HNF.out); have HN6 := Aside0.mk (show ¬ F1 w4.heap.size from fun q => (hf6 _ q).elim HNF.out (fun q => by have := HZ5.out; omega)); have HB6 := Aside0.mk (HB.out.trans hb6); have HT6 := Aside0.mk (M.stab_below HT.out HB6.out hlt.out); clear h26 hf6 hk6 hb6) | (go_at_call 8; (with_reducible refine (pleachlaw35_awake.walk _ HT6.out).mono ?_); rintro e w9 ⟨rfl, hb9⟩; have HB9 := Aside0.mk (below_step HB6.out hb9); clear hb9))
    go_ret
    exact ⟨rfl, HB9.out⟩
   ·have x15 : (er == 15) = false := by simp [h15]
    have x16 : decide (er = 15) = false := decide_eq_false h15
    go_wp2_with (first | (go_at_call 23; (with_reducible refine (pleachlaw35_CommitKnots.sp H2.out HT4.out ?h1 htz HP.out).mono ?_); (case h1 => have := HLN.out; omega); rintro e w6 ⟨rfl, F1, h26, hf6, hk6, hb6⟩; have H26 := Aside0.mk h26; have HC6 := Aside0.mk (M.rec_kept HC.out hk6 HNF.out); have HN6 := Aside0.mk (show ¬ F1 w4.heap.size from fun q => (hf6 _ q).elim HNF.out (fun q => by have := HZ5.out; omega)); have HB6 := Aside0.mk (HB.out.trans hb6); have HT6 := Aside0.mk (M.stab_below HT.out HB6.out hlt.out); clear h26 hf6 hk6 hb6))
    go_roundg (l0.length - (k + 1))
    case measure => have := hkq.out; omega
    case rel => exact ⟨k + 1, F1, s1, by go_num, by omega, ⟨rfl⟩, HQ1, HB6, HC6, H26, HN6⟩
  ·obtain rfl : k = l0.length := by omega
   have hq := HQ.out
   rw [List.take_length] at hq
   subst hq
   have p3 : decide ((l0.length : Int) < (l0.length : Int)) = false := decide_eq_false (by omega)
   have HTS := Aside0.mk (show ∀ t ∈ (pleachref16_Of.s l0).ts, t.size ≤ 1000000000000 from fun t ht => Nat.le_trans (HZ0.out t (pleachlaw35_CommitKnots.mem_ l0 t ht)) (by decide))
   have HZN := Aside0.mk (show ∀ n ∈ l1, n.size ≤ 1000000000000 from fun t ht => Nat.le_trans (HZ1.out t ht) (by decide))
   have HL9 := Aside0.mk (show (pleachref16_Of.s l0).ts.length ≤ 1000000 from by have := HLN.out; omega)
   have HR17 := Aside0.mk (Kd.C_below HR1.out HB.out)
   obtain ⟨⟨al, nl, er⟩, hres⟩ : ∃ y, commit_Knots.res (pleachref16_Of.s l0) l1 = y := ⟨_, rfl⟩
   have HRES := Aside0.mk hres
   have hfw : nl.length ≤ 1000000000 ∧ al.length ≤ 1000000000 := pleachlaw35_CommitKnots.few_ _ _ hres HL9.out
   clear hlt2 hk hkq HQ hres
   go_wp2_with (first | (go_at_call 27; (with_reducible refine (pleachlaw35_CommitKnots.b1 H2.out.sh HTS.out HL9.out HR17.out HZN.out HRES.out).mono ?_); rintro e w6 ⟨Y1, y1, X1, x1, rfl, hv2, hv1, hb6⟩; have HV1 := Aside0.mk hv1; have HV2 := Aside0.mk hv2; have HB6 := Aside0.mk (below_step HB.out hb6); have HC6 := Aside0.mk (M.rec_below HC.out hb6); have H26 := Aside0.mk (H2.out.below hb6); have HR16 := Aside0.mk (Kd.C_below HR17.out hb6); clear hv1 hv2 hb6) | ((with_reducible refine gate_dst (N := 64) rfl ?_); (try (refine gate_guard (by rfl) ?_; dsimp only)); refine M.wp_rec_load rfl 46 _ rfl w4.heap.size 46 [.slice E0 (pleachref16_Of.s l0).ts.length d0_, .slice E1 (pleachref16_Of.s l0).ts.length d1_, .string (pleachref16_Of.s l0).a, .string (pleachref16_Of.s l0).b] rfl HC6.out _ Tryd.underlying46 rfl pleachref16_Put.size_ ?_) | (go_at_call 28; (with_reducible refine (pleachlaw35_CommitKnots.b2 H26.out HL9.out HTS.out HR16.out HRES.out).mono ?_); rintro e w7 ⟨Y2, y2, X2, x2, rfl, hv4, hv3, hb7⟩; have HV3 := Aside0.mk hv3; have HV4 := Aside0.mk hv4; have HB7 := Aside0.mk (below_step HB6.out hb7); have HV17 := Aside0.mk (Kd.R_below HV1.out hb7); have HV27 := Aside0.mk (Kd.R_below HV2.out hb7); clear hv3 hv4 hb7) | (go_at_call 26; (with_reducible refine (pleachlaw35_CommitKnots.eqt nl X1 X2 x1 x2 _ HV17.out HV3.out hfw.1).mono ?_); rintro e w8 ⟨rfl, hb8⟩; have HB8 := Aside0.mk (below_step HB7.out hb8); have HU1 := Aside0.mk (Kd.R_below HV27.out hb8); have HU2 := Aside0.mk (Kd.R_below HV4.out hb8); clear hb8))
   go_loopg [88] (al.length) (fun kq2 v88 wr2 => ∃ q : Nat, v88 = .int .i64 (q : Int) ∧ q ≤ al.length ∧ Aside0 (kq2 = al.length - q) ∧ Aside0 (Below w8.heap.size w8 wr2))
   case atStart => exact ⟨0, rfl, Nat.zero_le _, ⟨rfl⟩, ⟨Below.refl _ _⟩⟩
   case round =>
    obtain ⟨q, rfl, hq, hkq2, HB9⟩ := hrel
    obtain ⟨W2, rfl⟩ : ∃ x, x = wr := ⟨_, rfl⟩
    by_cases hlt3 : q < al.length
    ·obtain ⟨aa, P1, p1_, he1, e0, e1, hl1, hC1⟩ := pleachlaw35_CommitKnots.at_ (Kd.R_below HU1.out HB9.out) hlt3
     obtain ⟨ab, P2, p2_, he2, f0, f1, hl2, hC2⟩ := pleachlaw35_CommitKnots.at_ (Kd.R_below HU2.out HB9.out) hlt3
     subst he1
     subst he2
     obtain ⟨cm, hcm⟩ : ∃ x, al[q] = x := ⟨_, rfl⟩
     rw [hcm] at e0 e1 hl1 hC1 f0 f1 hl2 hC2
     have hpl : cm.f1.length ≤ 1000 := pleachlaw35_CommitKnots.pl_ _ _ HRES.out (hcm ▸ List.getElem_mem hlt3)
     have HCa := Aside0.mk (Kd.C_below hC1 (below_drew1 (Below.refl W2.heap.size W2)))
     have HCb := Aside0.mk (Kd.C_below hC2 (below_drew1 (Below.refl W2.heap.size W2)))
     have t0 : (cm.f0 != cm.f0) = false := by simp
     have p1 : (q : Int) < (al.length : Int) := by omega
     have p2 : (0 : Int) ≤ (q : Int) := by omega
     have p3 := decide_eq_true p1
     clear hC1 hC2 hcm
     go_upto_region 18 with (fail)
     refine start_ (n := 25) (S := fun w' => w'.cell? (aa.add (q * 2)) = some (.int .i64 cm.f0) ∧ w'.cell? ⟨(aa.add (q * 2)).block, (aa.add (q * 2)).off + 1, none⟩ = some (.slice P1 cm.f1.length p1_) ∧ w'.cell? (ab.add (q * 2)) = some (.int .i64 cm.f0) ∧ w'.cell? ⟨(ab.add (q * 2)).block, (ab.add (q * 2)).off + 1, none⟩ = some (.slice P2 cm.f1.length p2_)) (ds := []) (M.tf [0, 25]) (by kernel_rfl) rfl rfl ⟨e0, e1, f0, f1⟩ (fun hHeld => ?_)
     refine with_tabW pleachlaw35_CommitKnots.tab18 pleachlaw35_CommitKnots.bits18 (fun HT_ HW_ => ?_)
     refine M.pu 0 91 [1, 24] HT_ ?_
     refine M.pu 1 92 [2, 23] HT_ ?_
     refine M.pu 2 93 [3, 22] HT_ ?_
     refine M.pu 3 94 [4, 21] HT_ ?_
     refine M.pu 5 96 [4, 1, 1, 19] HT_ ?_
     refine M.pu 6 97 [4, 1, 2, 18] HT_ ?_
     refine M.pu 7 98 [4, 1, 3, 17] HT_ ?_
     refine M.pu 8 99 [4, 1, 4, 16] HT_ ?_
     refine M.tk 4 95 [9, 16] HT_ HW_ hHeld ?_
     refine M.tk 9 100 [10, 15] HT_ HW_ hHeld ?_
     refine M.pu 10 101 [11, 14] HT_ ?_
     refine M.pu 11 102 [12, 13] HT_ ?_
     refine M.pu 12 103 [13, 12] HT_ ?_
     refine M.pu 13 104 [14, 11] HT_ ?_
     refine M.pu 14 105 [15, 10] HT_ ?_
     refine M.pu 15 106 [16, 9] HT_ ?_
     refine M.pu 17 108 [16, 1, 1, 7] HT_ ?_
     refine M.pu 18 109 [16, 1, 2, 6] HT_ ?_
     refine M.pu 19 110 [16, 1, 3, 5] HT_ ?_
     refine M.pu 20 111 [16, 1, 4, 4] HT_ ?_
     refine M.tk 16 107 [21, 4] HT_ HW_ hHeld ?_
     refine M.tk 21 112 [22, 3] HT_ HW_ hHeld ?_
     refine one_ (i := 22) (N := some 113) (M.tf [23, 2]) rfl rfl (one_of HT_.out (by kernel_rfl)) (by decide) (fun K hK => ?_)
     refine goes_ Tryd.func29 (by kernel_rfl) rfl #[.slice P1 cm.f1.length p1_, .slice P2 cm.f1.length p2_] (by rfl) rfl rfl (by simp only [List.map_toArray, List.map_cons, List.map_nil]; rfl) ?_
     with_reducible refine (pleachlaw35_CommitKnots.eqi cm.f1 P1 P2 p1_ p2_ _ HCa.out hl1 HCb.out hl2 hpl).mono ?_
     rintro e wS ⟨rfl, hbS⟩
     refine ⟨_, rfl, ?_⟩
     have HBS := Aside0.mk hbS
     clear hbS
     refine hK.out _ _ ⟨M.hc HBS e0, M.hc HBS e1, M.hc HBS f0, M.hc HBS f1⟩ (fun hHeld => ?_)
     clear hK K
     refine norm_ (a' := ?_) ?_ ?_
     rotate_left
     ·show Act.put _ (some 113) _ = _
      simp only [Act.put, List.setIfInBounds_toArray, List.set_cons_zero, List.set_cons_succ, i64_w, i32_w]
      rfl
     refine M.pu 23 114 [24, 1] HT_ ?_
     refine M.pu 24 115 [25] HT_ ?_
     refine done_ (done_of HT_.out (by kernel_rfl)) ?_
     go_wp2
     go_roundg (al.length - (q + 1))
     case measure => have := hkq2.out; omega
     case rel => exact ⟨q + 1, by go_num, by omega, ⟨rfl⟩, ⟨below_step HB9.out (below_step (below_drew1 (Below.refl _ _)) HBS.out)⟩⟩
    ·obtain rfl : q = al.length := by omega
     have p3 : decide ((al.length : Int) < (al.length : Int)) = false := decide_eq_false (by omega)
     have HBA := Aside0.mk (below_step HB8.out HB9.out)
     have HTA := Aside0.mk (M.stab_below HT.out HBA.out hlt.out)
     go_wp2_with (go_at_call 8; (with_reducible refine (pleachlaw35_awake.walk _ HTA.out).mono ?_); rintro e w9 ⟨rfl, hb9⟩; have HBE := Aside0.mk (below_step HBA.out hb9); clear hb9)
     go_ret
     exact ⟨rfl, HBE.out⟩
theorem pleachlaw35_CommitKnots.calls (A0 : Option Addr) (c0 : Nat) (l0 : List ByteArray) (A1 : Option Addr) (c1 : Nat) (l1 : List ByteArray) (r : Bool) (w : World) (hr0 : Kd.C Kd.string w A0 l0.length l0) (hc0 : l0.length ≤ c0) (hr1 : Kd.C Kd.string w A1 l1.length l1) (hc1 : l1.length ≤ c1) (hT : M.stab w) (h : pleachlaw35_CommitKnots.f l0 l1 = some r) :
    Calls Tryd.prog 6 #[.slice A0 l0.length c0, .slice A1 l1.length c1] w fun e w' => e = .returned (.bool r) ∧ Below w.heap.size w w' := by
 obtain rfl : true = r := Option.some.inj h
 by_cases g0 : 30 < l0.length
 ·exact pleachlaw35_CommitKnots.out0 A0 c0 l0 A1 c1 l1 w hr0 hc0 hr1 hc1 hT g0
 by_cases g1 : 5000 < M.bytesN 0 l0
 ·exact pleachlaw35_CommitKnots.out1 A0 c0 l0 A1 c1 l1 w hr0 hc0 hr1 hc1 hT (by omega) g1
 by_cases g2 : 5 < l1.length
 ·exact pleachlaw35_CommitKnots.out2 A0 c0 l0 A1 c1 l1 w hr0 hc0 hr1 hc1 hT (by omega) (by omega) g2
 by_cases g3 : 500 < M.bytesN 0 l1
 ·exact pleachlaw35_CommitKnots.out3 A0 c0 l0 A1 c1 l1 w hr0 hc0 hr1 hc1 hT (by omega) (by omega) (by omega) g3
 exact pleachlaw35_CommitKnots.in_ A0 c0 l0 A1 c1 l1 w hr0 hc0 hr1 hc1 hT (by omega) (by omega) (by omega) (by omega)
def pleachlaw35_CommitKnots.Pure : Prop := ∀ (l0 : List ByteArray) (l1 : List ByteArray), ((∀ y ∈ l0, y.size ≤ 9223372036854775807) ∧ l0.length ≤ 9223372036854775807) → ((∀ y ∈ l1, y.size ≤ 9223372036854775807) ∧ l1.length ≤ 9223372036854775807) → pleachlaw35_CommitKnots.f l0 l1 = some true
end Go.Proofs.YtikdbklmhjlfoaaDoor.ECommitKnots
