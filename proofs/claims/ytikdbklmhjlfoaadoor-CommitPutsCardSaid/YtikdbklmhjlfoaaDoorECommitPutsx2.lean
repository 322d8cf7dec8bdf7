-- Written by this session's own program (wip/tools/ext.py) for this claim; Lean checks it.
import Derived.Test.YtikdbklmhjlfoaaDoorECommitPutsx0
namespace Go.Proofs.YtikdbklmhjlfoaaDoor.ECommitPuts
open Go.RowKit Go.Proofs.YtikdbklmhjlfoaaDoorW.PrintWords Go.Proofs.YtikdbklmhjlfoaaDoorW.PrintLast Go.Proofs.YtikdbklmhjlfoaaDoorW.PrintMore
attribute [local go_sem] M.run_leq M.run_gtr M.run_geq max2_int min2_int max_two min_two max_three min_three max_four min_four   -- for this text's walks alone
set_option linter.unusedVariables false
set_option linter.unusedSimpArgs false

/-- A state of type 100 at block g of W; what its slices lead to came in by w0. -/
def IsS100 (w0 W : World) (g : Nat) (f0 : ByteArray) (f1 : Int) (f2 : Int) (f3 : Bool) : Prop := W.heap[g]? = some (.cells #[.string f0, .int .i64 f1, .int .i64 f2, .bool f3] 100 (0, 0)) ∧ w0.heap.size ≤ g
theorem IsS100.grown {w0 W : World} {g : Nat} {f0 : ByteArray} {f1 : Int} {f2 : Int} {f3 : Bool} {W1 : World} {row : Option Nat} (h : IsS100 w0 W g f0 f1 f2 f3) (hw : W.grownBy W1 row) (hne : some g ≠ row) : IsS100 w0 W1 g f0 f1 f2 f3 := by
  obtain ⟨hb, hg⟩ := h
  exact ⟨blk_grown hb hw hne, hg⟩
theorem IsS100.own_neN {w0 W : World} {g : Nat} {f0 : ByteArray} {f1 : Int} {f2 : Int} {f3 : Bool} {α : Type} {d : Kd α} {e : Nat} {base : Nat} {ok : Nat → Prop} {v : Value} {xs : List α} (h : IsS100 w0 W g f0 f1 f2 f3) (ho : Kd.N d e W base ok v xs) (ht : e ≠ 100) : some g ≠ v.ownBlock := by
  obtain ⟨hb, hg⟩ := h
  exact Kd.N_ne ho hb ht
theorem IsS100.fresh {w0 W : World} {g : Nat} {f0 : ByteArray} {f1 : Int} {f2 : Int} {f3 : Bool} (h : IsS100 w0 W g f0 f1 f2 f3) : ∀ k, W.heap.size ≤ k → k ≠ g := by
  obtain ⟨hb, hg⟩ := h
  exact Kd.freshB hb
theorem IsS100.kept {w0 W : World} {g : Nat} {f0 : ByteArray} {f1 : Int} {f2 : Int} {f3 : Bool} {W1 : World} {S : Nat → Prop} (h : IsS100 w0 W g f0 f1 f2 f3) (hk : Kept W W1 S) (hne : ¬ S g) : IsS100 w0 W1 g f0 f1 f2 f3 := by
  obtain ⟨hb, hg⟩ := h
  exact ⟨blk_kept hb hk hne, hg⟩
theorem IsS100.below {w0 W : World} {g : Nat} {f0 : ByteArray} {f1 : Int} {f2 : Int} {f3 : Bool} {W1 : World} (h : IsS100 w0 W g f0 f1 f2 f3) (hw : Below W.heap.size W W1) : IsS100 w0 W1 g f0 f1 f2 f3 := h.grown (grown_of_below hw none) (by simp)
theorem IsS100.alloc {w0 W : World} {g : Nat} {f0 : ByteArray} {f1 : Int} {f2 : Int} {f3 : Bool} (h : IsS100 w0 W g f0 f1 f2 f3) (o : Obj) : IsS100 w0 (W.alloc o) g f0 f1 f2 f3 := h.below (below_alloc (Below.refl _ _) o)
theorem IsS100.drewN {w0 W : World} {g : Nat} {f0 : ByteArray} {f1 : Int} {f2 : Int} {f3 : Bool} (h : IsS100 w0 W g f0 f1 f2 f3) (m : Nat) : IsS100 w0 (W.drewN m) g f0 f1 f2 f3 := h
theorem IsS100.drew {w0 W : World} {g : Nat} {f0 : ByteArray} {f1 : Int} {f2 : Int} {f3 : Bool} (h : IsS100 w0 W g f0 f1 f2 f3) : IsS100 w0 W.drew g f0 f1 f2 f3 := h
theorem IsS100.at_ {w0 W : World} {g : Nat} {f0 : ByteArray} {f1 : Int} {f2 : Int} {f3 : Bool} {w' : World} {m : Nat} (hq : W.drewN m = w') (h : IsS100 w0 W g f0 f1 f2 f3) : IsS100 w0 w' g f0 f1 f2 f3 := by subst hq; exact IsS100.drewN h m
theorem IsS100.apart {w0 W : World} {g : Nat} {f0 : ByteArray} {f1 : Int} {f2 : Int} {f3 : Bool} {α : Type} {d : Kd α} {e : Nat} {base : Nat} {ok : Nat → Prop} {v : Value} {xs : List α} (h : IsS100 w0 W g f0 f1 f2 f3) (ho : d.R e W base ok v xs) (ht : ∀ q, q ∈ e :: d.E → q ≠ 100) : d.R e W base (fun k => ok k ∧ k ≠ g) v xs := by
  obtain ⟨hb, hg⟩ := h
  exact Kd.R_types ho hb ht
theorem IsS100.own_ne {w0 W : World} {g : Nat} {f0 : ByteArray} {f1 : Int} {f2 : Int} {f3 : Bool} {α : Type} {d : Kd α} {e : Nat} {base : Nat} {ok : Nat → Prop} {v : Value} {xs : List α} (h : IsS100 w0 W g f0 f1 f2 f3) (ho : d.R e W base ok v xs) (ht : e ≠ 100) : some g ≠ v.ownBlock := by
  obtain ⟨hb, hg⟩ := h
  exact Kd.R_ne ho hb ht
theorem IsS100.apartQ {w0 W : World} {g : Nat} {f0 : ByteArray} {f1 : Int} {f2 : Int} {f3 : Bool} {α : Type} {d : Kd α} {e : Nat} {base : Nat} {ok : Nat → Prop} {v : Value} {xs : List α} (h : IsS100 w0 W g f0 f1 f2 f3) (ho : d.Q e W base ok v xs) (ht : ∀ q, q ∈ e :: d.E → q ≠ 100) : d.Q e W base (fun k => ok k ∧ k ≠ g) v xs := by
  obtain ⟨hb, hg⟩ := h
  exact Kd.Q_types ho hb ht
theorem IsS100.own_neQ {w0 W : World} {g : Nat} {f0 : ByteArray} {f1 : Int} {f2 : Int} {f3 : Bool} {α : Type} {d : Kd α} {e : Nat} {base : Nat} {ok : Nat → Prop} {v : Value} {xs : List α} (h : IsS100 w0 W g f0 f1 f2 f3) (ho : d.Q e W base ok v xs) (ht : e ≠ 100) : some g ≠ v.ownBlock := by
  obtain ⟨hb, hg⟩ := h
  exact Kd.Q_ne ho hb ht
theorem IsS100.apartS {w0 W : World} {g : Nat} {f0 : ByteArray} {f1 : Int} {f2 : Int} {f3 : Bool} {α : Type} {d : Kd α} {e : Nat} {base : Nat} {ok : Nat → Prop} {v : Value} {xs : List α} (h : IsS100 w0 W g f0 f1 f2 f3) (ho : d.S e W base ok v xs) (ht : ∀ q, q ∈ e :: d.E → q ≠ 100) : d.S e W base (fun k => ok k ∧ k ≠ g) v xs := by
  obtain ⟨hb, hg⟩ := h
  exact Kd.S_types ho hb ht
theorem IsS100.own_neS {w0 W : World} {g : Nat} {f0 : ByteArray} {f1 : Int} {f2 : Int} {f3 : Bool} {α : Type} {d : Kd α} {e : Nat} {base : Nat} {ok : Nat → Prop} {v : Value} {xs : List α} (h : IsS100 w0 W g f0 f1 f2 f3) (ho : d.S e W base ok v xs) (ht : e ≠ 100) : some g ≠ v.ownBlock := by
  obtain ⟨hb, hg⟩ := h
  exact Kd.S_ne ho hb ht
theorem IsS100.lt {w0 W : World} {g : Nat} {f0 : ByteArray} {f1 : Int} {f2 : Int} {f3 : Bool} (h : IsS100 w0 W g f0 f1 f2 f3) : g < W.heap.size := by
  obtain ⟨hb, hg⟩ := h
  exact blk_lt hb
theorem IsS100.ge {w0 W : World} {g : Nat} {f0 : ByteArray} {f1 : Int} {f2 : Int} {f3 : Bool} (h : IsS100 w0 W g f0 f1 f2 f3) : w0.heap.size ≤ g := by
  obtain ⟨hb, hg⟩ := h
  exact hg
theorem IsS100.ne_blk {w0 W : World} {g : Nat} {f0 : ByteArray} {f1 : Int} {f2 : Int} {f3 : Bool} {a : Nat} {cs : Array Value} {t : TypeId} {fr : Nat × Nat} (h : IsS100 w0 W g f0 f1 f2 f3) (hb2 : W.heap[a]? = some (.cells cs t fr)) (ht : t ≠ 100) : g ≠ a := by
  obtain ⟨hb, hg⟩ := h
  rintro rfl
  rw [hb] at hb2
  injection hb2 with hb2
  injection hb2 with _ ht2
  exact ht ht2.symm
theorem IsS100.far {w0 W : World} {g : Nat} {f0 : ByteArray} {f1 : Int} {f2 : Int} {f3 : Bool} {p : Addr} (h : IsS100 w0 W g f0 f1 f2 f3) (hne : g ≠ p.block) (u : Value) : IsS100 w0 (W.setCell p u) g f0 f1 f2 f3 := by
  obtain ⟨hb, hg⟩ := h
  exact ⟨blk_far hb hne u, hg⟩
theorem cellS100_0 {W : World} {g : Nat} {f0 : ByteArray} {f1 : Int} {f2 : Int} {f3 : Bool} (h : W.heap[g]? = some (.cells #[.string f0, .int .i64 f1, .int .i64 f2, .bool f3] 100 (0, 0))) : W.cell? ⟨g, 0, none⟩ = some (.string f0) := (blk_cell h 0).trans rfl
theorem IsS100.set_0 {w0 W : World} {g : Nat} {f0 : ByteArray} {f1 : Int} {f2 : Int} {f3 : Bool} (h : IsS100 w0 W g f0 f1 f2 f3) (x : ByteArray) : IsS100 w0 (W.setCell ⟨g, 0, none⟩ (.string x)) g x f1 f2 f3 := by
  obtain ⟨hb, hg⟩ := h
  exact ⟨by simpa using blk_set hb 0 (.string x), hg⟩
theorem cellS100_1 {W : World} {g : Nat} {f0 : ByteArray} {f1 : Int} {f2 : Int} {f3 : Bool} (h : W.heap[g]? = some (.cells #[.string f0, .int .i64 f1, .int .i64 f2, .bool f3] 100 (0, 0))) : W.cell? ⟨g, 1, none⟩ = some (.int .i64 f1) := (blk_cell h 1).trans rfl
theorem IsS100.set_1 {w0 W : World} {g : Nat} {f0 : ByteArray} {f1 : Int} {f2 : Int} {f3 : Bool} (h : IsS100 w0 W g f0 f1 f2 f3) (x : Int) : IsS100 w0 (W.setCell ⟨g, 1, none⟩ (.int .i64 x)) g f0 x f2 f3 := by
  obtain ⟨hb, hg⟩ := h
  exact ⟨by simpa using blk_set hb 1 (.int .i64 x), hg⟩
theorem cellS100_2 {W : World} {g : Nat} {f0 : ByteArray} {f1 : Int} {f2 : Int} {f3 : Bool} (h : W.heap[g]? = some (.cells #[.string f0, .int .i64 f1, .int .i64 f2, .bool f3] 100 (0, 0))) : W.cell? ⟨g, 2, none⟩ = some (.int .i64 f2) := (blk_cell h 2).trans rfl
theorem IsS100.set_2 {w0 W : World} {g : Nat} {f0 : ByteArray} {f1 : Int} {f2 : Int} {f3 : Bool} (h : IsS100 w0 W g f0 f1 f2 f3) (x : Int) : IsS100 w0 (W.setCell ⟨g, 2, none⟩ (.int .i64 x)) g f0 f1 x f3 := by
  obtain ⟨hb, hg⟩ := h
  exact ⟨by simpa using blk_set hb 2 (.int .i64 x), hg⟩
theorem cellS100_3 {W : World} {g : Nat} {f0 : ByteArray} {f1 : Int} {f2 : Int} {f3 : Bool} (h : W.heap[g]? = some (.cells #[.string f0, .int .i64 f1, .int .i64 f2, .bool f3] 100 (0, 0))) : W.cell? ⟨g, 3, none⟩ = some (.bool f3) := (blk_cell h 3).trans rfl
theorem IsS100.set_3 {w0 W : World} {g : Nat} {f0 : ByteArray} {f1 : Int} {f2 : Int} {f3 : Bool} (h : IsS100 w0 W g f0 f1 f2 f3) (x : Bool) : IsS100 w0 (W.setCell ⟨g, 3, none⟩ (.bool x)) g f0 f1 f2 x := by
  obtain ⟨hb, hg⟩ := h
  exact ⟨by simpa using blk_set hb 3 (.bool x), hg⟩
theorem IsS100.new (w0 W : World) (f0 : ByteArray) (f1 : Int) (f2 : Int) (f3 : Bool) (hB : Below w0.heap.size w0 W) : IsS100 w0 (W.alloc (.cells #[.string f0, .int .i64 f1, .int .i64 f2, .bool f3] 100)) W.heap.size f0 f1 f2 f3 := ⟨by simpa using heap_alloc_new W _, hB.size⟩

/-! ### scan_New: function 30 -/
def scan_New.f (a0 : ByteArray) : Option (ByteArray × Int × Int × Bool) := some (a0, 0, 0, true)
set_option maxHeartbeats 8000000 in
set_option maxRecDepth 100000 in
theorem scan_New.calls (a0 : ByteArray) (r1 : ByteArray) (r2 : Int) (r3 : Int) (r4 : Bool) (w0 w : World) (hB : Below w0.heap.size w0 w) (h : scan_New.f a0 = some (r1, r2, r3, r4)) :
    Calls Tryd.prog 30 #[.string a0] w fun e w' => ∃ g_ : Nat, e = .returned (.pointer (some ⟨g_, 0, none⟩)) ∧ IsS100 w0 w' g_ r1 r2 r3 r4 ∧ Below w0.heap.size w0 w' ∧ Below w.heap.size w w' := by
  have hu100 := Tryd.underlying100
  have HBW := Aside0.mk (Below.refl w.heap.size w)
  have HW0 := Aside0.mk hB.size
  have HB := Aside0.mk hB
  clear hB
  have H : (some (a0, 0, 0, true)) = some (r1, r2, r3, r4) := h
  clear h
  simp only [Option.some.injEq, Prod.mk.injEq] at H
  obtain ⟨rfl, rfl, rfl, rfl⟩ := H
  go_enter Tryd.func30, Tryd.ntmps30
  go_wp2_with (first | ((with_reducible refine gate_dst (N := 5) rfl ?_); refine box_event ?hg (N := 5) ?hd (cs := #[.string a0, .int .i64 0, .int .i64 0, .bool true]) (t := 100) ?hr ?_; (case hd => rfl); (case hg => rfl); (case hr => first | (go_simp; done) | (go_simp; rfl)); intro zaa hg w2 hbox hb; have n0_ := Aside0.mk (below_step HBW.out hb); have n1_ := M.upS HB hb; have n2_ := Aside0.mk (hbox); have n3_ := Aside0.mk ((by rw [hg]; exact (below_size (by repeat (first | (with_reducible first | exact HBW.out | apply below_alloc | apply pw_below_drewN | apply below_drew1) | exact HBW.out))) : w.heap.size ≤ zaa)); have n4_ := Aside0.mk ((Nat.le_trans HW0.out (by rw [hg]; exact (below_size (by repeat (first | (with_reducible first | exact HBW.out | apply below_alloc | apply pw_below_drewN | apply below_drew1) | exact HBW.out))) : w.heap.size ≤ zaa) : w0.heap.size ≤ zaa)); clear HBW HB; have HBW := n0_; have HB := n1_; have zab := n2_; have zac := n3_; have zad := n4_; clear n0_ n1_ n2_ n3_ n4_; clear hb hbox hg))
  go_ret
  exact ⟨_, rfl, (show IsS100 w0 _ zaa a0 0 0 true from ⟨by (with_reducible repeat (first | refine blk_drewN ?_ _ | refine blk_drew ?_ | refine blk_alloc ?_ _)); exact zab.out, zad.out⟩), by repeat (first | (with_reducible first | exact HB.out | apply below_alloc | apply pw_below_drewN | apply below_drew1 | refine below_set ?_ zad.out) | exact HB.out), by repeat (first | (with_reducible first | exact HBW.out | apply below_alloc | apply pw_below_drewN | apply below_drew1 | refine below_set ?_ zac.out) | exact HBW.out)⟩

/-! ### scan_Scan_Err: function 54 -/
def scan_Scan_Err.f (s0_0 : ByteArray) (s0_1 : Int) (s0_2 : Int) (s0_3 : Bool) : Option (Int × ByteArray × Int × Int × Bool) := if s0_3 = true then (some (s0_2, s0_0, s0_1, s0_2, s0_3)) else (some (1, s0_0, s0_1, s0_2, s0_3))
set_option maxHeartbeats 8000000 in
set_option maxRecDepth 100000 in
theorem scan_Scan_Err.calls (g : Nat) (s0_0 : ByteArray) (s0_1 : Int) (s0_2 : Int) (s0_3 : Bool) (r1 : Int) (r2 : ByteArray) (r3 : Int) (r4 : Int) (r5 : Bool) (w0 w : World) (hI : IsS100 w0 w g s0_0 s0_1 s0_2 s0_3) (hB : Below w0.heap.size w0 w) (h : scan_Scan_Err.f s0_0 s0_1 s0_2 s0_3 = some (r1, r2, r3, r4, r5)) :
    Calls Tryd.prog 54 #[.pointer (some ⟨g, 0, none⟩)] w fun e w' => e = .returned (.int .i64 r1) ∧ IsS100 w0 w' g r2 r3 r4 r5 ∧ Below w0.heap.size w0 w' ∧ KeepBut w w' g none := by
  have HI0 := Aside0.mk hI
  have HK := Aside0.mk (KeepBut.refl w g none)
  have HL := Aside0.mk hB.size
  clear hI
  have HW0 := Aside0.mk hB.size
  have HB := Aside0.mk hB
  clear hB
  have H : (if s0_3 = true then (some (s0_2, s0_0, s0_1, s0_2, s0_3)) else (some (1, s0_0, s0_1, s0_2, s0_3))) = some (r1, r2, r3, r4, r5) := h
  clear h
  by_cases c2 : s0_3 = true
  · subst c2
    have H1 : (some (s0_2, s0_0, s0_1, s0_2, true)) = some (r1, r2, r3, r4, r5) := by rw [if_pos rfl] at H; exact H
    clear H
    have H := H1
    clear H1
    simp only [Option.some.injEq, Prod.mk.injEq] at H
    obtain ⟨rfl, rfl, rfl, rfl, rfl⟩ := H
    obtain ⟨HGz3, hgz3⟩ := HI0.out
    have zae := cellS100_0 HGz3
    have zaf := cellS100_1 HGz3
    have zag := cellS100_2 HGz3
    have zah := cellS100_3 HGz3
    have zai := blk_frozen HGz3 0
    have zaj := blk_frozen HGz3 1
    have zak := blk_frozen HGz3 2
    have zal := blk_frozen HGz3 3
    clear HGz3 hgz3
    go_enter Tryd.func54, Tryd.ntmps54
    go_wp2
    go_ret
    exact ⟨by first | rfl | (simp [errW_none, errW_some] <;> rfl) | (simp [*, errW_none, errW_some] <;> rfl), by repeat (first | (with_reducible first | exact HI0.out | apply IsS100.alloc | apply IsS100.drewN | apply IsS100.drew | apply IsS100.set_0 | apply IsS100.set_1 | apply IsS100.set_2 | apply IsS100.set_3) | exact HI0.out), by repeat (first | (with_reducible first | exact HB.out | apply below_alloc | apply pw_below_drewN | apply below_drew1 | refine below_set ?_ (IsS100.ge HI0.out)) | exact HB.out), by repeat (first | (with_reducible first | exact HK.out | apply KeepBut.set_ | apply keep_drewN | apply keep_drew | apply keep_alloc) | exact HK.out)⟩
  · replace c2 := Bool.eq_false_iff.mpr c2
    subst c2
    have H1 : (some (1, s0_0, s0_1, s0_2, false)) = some (r1, r2, r3, r4, r5) := by rw [if_neg (show ¬ (false = true) by decide)] at H; exact H
    clear H
    have H := H1
    clear H1
    simp only [Option.some.injEq, Prod.mk.injEq] at H
    obtain ⟨rfl, rfl, rfl, rfl, rfl⟩ := H
    obtain ⟨HGz4, hgz4⟩ := HI0.out
    have zam := cellS100_0 HGz4
    have zan := cellS100_1 HGz4
    have zao := cellS100_2 HGz4
    have zap := cellS100_3 HGz4
    have zaq := blk_frozen HGz4 0
    have zar := blk_frozen HGz4 1
    have zas := blk_frozen HGz4 2
    have zat := blk_frozen HGz4 3
    clear HGz4 hgz4
    go_enter Tryd.func54, Tryd.ntmps54
    go_wp2
    go_ret
    exact ⟨by first | rfl | (simp [errW_none, errW_some] <;> rfl) | (simp [*, errW_none, errW_some] <;> rfl), by repeat (first | (with_reducible first | exact HI0.out | apply IsS100.alloc | apply IsS100.drewN | apply IsS100.drew | apply IsS100.set_0 | apply IsS100.set_1 | apply IsS100.set_2 | apply IsS100.set_3) | exact HI0.out), by repeat (first | (with_reducible first | exact HB.out | apply below_alloc | apply pw_below_drewN | apply below_drew1 | refine below_set ?_ (IsS100.ge HI0.out)) | exact HB.out), by repeat (first | (with_reducible first | exact HK.out | apply KeepBut.set_ | apply keep_drewN | apply keep_drew | apply keep_alloc) | exact HK.out)⟩

/-! ### scan_Scan_take_p: function 53 -/
def scan_Scan_take_p.f (s0_0 : ByteArray) (s0_1 : Int) (s0_2 : Int) (s0_3 : Bool) (a1 : Int) : Option (ByteArray × ByteArray × Int × Int × Bool) := (scan_Scan_Err.f s0_0 s0_1 s0_2 s0_3).bind fun bt108 => (if bt108.1 = 0 then (if a1 < 0 then (some ((⟨#[]⟩ : ByteArray), bt108.2.1, bt108.2.2.1, 3, bt108.2.2.2.2)) else (if a1 > (wrap64 ((bt108.2.1.size : Int) - bt108.2.2.1)) then (some ((⟨#[]⟩ : ByteArray), bt108.2.1, bt108.2.2.1, 3, bt108.2.2.2.2)) else (if 0 ≤ bt108.2.2.1 then (if bt108.2.2.1 ≤ (wrap64 (bt108.2.2.1 + a1)) then (if (wrap64 (bt108.2.2.1 + a1)) ≤ (bt108.2.1.size : Int) then (some (bt108.2.1.extract (bt108.2.2.1 : Int).toNat ((wrap64 (bt108.2.2.1 + a1)) : Int).toNat, bt108.2.1, wrap64 (bt108.2.2.1 + a1), bt108.2.2.2.1, bt108.2.2.2.2)) else (none)) else (none)) else (none)))) else (some ((⟨#[]⟩ : ByteArray), bt108.2.1, bt108.2.2.1, bt108.2.2.2.1, bt108.2.2.2.2)))
set_option maxHeartbeats 8000000 in
set_option maxRecDepth 100000 in
theorem scan_Scan_take_p.calls (g : Nat) (s0_0 : ByteArray) (s0_1 : Int) (s0_2 : Int) (s0_3 : Bool) (a1 : Int) (r1 : ByteArray) (r2 : ByteArray) (r3 : Int) (r4 : Int) (r5 : Bool) (w0 w : World) (hI : IsS100 w0 w g s0_0 s0_1 s0_2 s0_3) (hB : Below w0.heap.size w0 w) (h : scan_Scan_take_p.f s0_0 s0_1 s0_2 s0_3 a1 = some (r1, r2, r3, r4, r5)) :
    Calls Tryd.prog 53 #[.pointer (some ⟨g, 0, none⟩), .int .i64 a1] w fun e w' => e = .returned (.string r1) ∧ IsS100 w0 w' g r2 r3 r4 r5 ∧ Below w0.heap.size w0 w' ∧ KeepBut w w' g none := by
  have HI0 := Aside0.mk hI
  have HK := Aside0.mk (KeepBut.refl w g none)
  have HL := Aside0.mk hB.size
  clear hI
  have HW0 := Aside0.mk hB.size
  have HB := Aside0.mk hB
  clear hB
  have H : ((scan_Scan_Err.f s0_0 s0_1 s0_2 s0_3).bind fun bt108 => (if bt108.1 = 0 then (if a1 < 0 then (some ((⟨#[]⟩ : ByteArray), bt108.2.1, bt108.2.2.1, 3, bt108.2.2.2.2)) else (if a1 > (wrap64 ((bt108.2.1.size : Int) - bt108.2.2.1)) then (some ((⟨#[]⟩ : ByteArray), bt108.2.1, bt108.2.2.1, 3, bt108.2.2.2.2)) else (if 0 ≤ bt108.2.2.1 then (if bt108.2.2.1 ≤ (wrap64 (bt108.2.2.1 + a1)) then (if (wrap64 (bt108.2.2.1 + a1)) ≤ (bt108.2.1.size : Int) then (some (bt108.2.1.extract (bt108.2.2.1 : Int).toNat ((wrap64 (bt108.2.2.1 + a1)) : Int).toNat, bt108.2.1, wrap64 (bt108.2.2.1 + a1), bt108.2.2.2.1, bt108.2.2.2.2)) else (none)) else (none)) else (none)))) else (some ((⟨#[]⟩ : ByteArray), bt108.2.1, bt108.2.2.1, bt108.2.2.2.1, bt108.2.2.2.2)))) = some (r1, r2, r3, r4, r5) := h
  clear h
  replace H := Option.bind_eq_some_iff.mp H
  obtain ⟨⟨t108, t109, t110, t111, t112⟩, A30, H⟩ := H
  replace H : (if t108 = 0 then (if a1 < 0 then (some ((⟨#[]⟩ : ByteArray), t109, t110, 3, t112)) else (if a1 > (wrap64 ((t109.size : Int) - t110)) then (some ((⟨#[]⟩ : ByteArray), t109, t110, 3, t112)) else (if 0 ≤ t110 then (if t110 ≤ (wrap64 (t110 + a1)) then (if (wrap64 (t110 + a1)) ≤ (t109.size : Int) then (some (t109.extract (t110 : Int).toNat ((wrap64 (t110 + a1)) : Int).toNat, t109, wrap64 (t110 + a1), t111, t112)) else (none)) else (none)) else (none)))) else (some ((⟨#[]⟩ : ByteArray), t109, t110, t111, t112))) = some (r1, r2, r3, r4, r5) := H
  have A3 := Aside0.mk A30
  clear A30
  by_cases c4 : t108 = 0
  · rw [if_pos c4] at H
    have c4b0 : (t108 == 0) = true := beq_iff_eq.mpr c4
    have c4b1 : (t108 != 0) = false := bne_eq_false_iff_eq.mpr c4
    clear c4
    by_cases c5 : a1 < 0
    · rw [if_pos c5] at H
      have c5b0 : decide (a1 < 0) = true := decide_eq_true c5
      clear c5
      simp only [Option.some.injEq, Prod.mk.injEq] at H
      obtain ⟨rfl, rfl, rfl, rfl, rfl⟩ := H
      go_enter Tryd.func53, Tryd.ntmps53
      go_wp2_with (first | (go_at_call 54; (with_reducible refine (scan_Scan_Err.calls g s0_0 s0_1 s0_2 s0_3 t108 t109 t110 t111 t112 w0 _ ?side1 ?side2 A3.out).mono ?_); (case side1 => repeat (first | (with_reducible first | exact HI0.out | apply IsS100.alloc | apply IsS100.drewN | apply IsS100.drew | apply IsS100.set_0 | apply IsS100.set_1 | apply IsS100.set_2 | apply IsS100.set_3) | exact HI0.out)); (case side2 => repeat (first | (with_reducible first | exact HB.out | apply below_alloc | apply pw_below_drewN | apply below_drew1 | refine below_set ?_ (IsS100.ge HI0.out)) | exact HB.out)); rintro e w6 ⟨rfl, hi, hb, hk⟩; have n0_ := Aside0.mk (KeepBut.trans (by repeat (first | (with_reducible first | exact HK.out | apply KeepBut.set_ | apply keep_drewN | apply keep_drew | apply keep_alloc) | exact HK.out)) hk (.inl rfl)); have n1_ := Aside0.mk (hb); have n2_ := Aside0.mk (hi); clear HK HB HI0; have HK := n0_; have HB := n1_; have HI0 := n2_; clear n0_ n1_ n2_; (try clear hb); (try clear hb2); (try clear hk); (try clear hi); obtain ⟨HGz7, hgz7⟩ := HI0.out; have zau := cellS100_0 HGz7; have zav := cellS100_1 HGz7; have zaw := cellS100_2 HGz7; have zax := cellS100_3 HGz7; have zay := blk_frozen HGz7 0; have zaz := blk_frozen HGz7 1; have zaA := blk_frozen HGz7 2; have zaB := blk_frozen HGz7 3; clear HGz7 hgz7))
      repeat (go_quiet (first | (go_at_call 54; (with_reducible refine (scan_Scan_Err.calls g s0_0 s0_1 s0_2 s0_3 t108 t109 t110 t111 t112 w0 _ ?side1 ?side2 A3.out).mono ?_); (case side1 => repeat (first | (with_reducible first | exact HI0.out | apply IsS100.alloc | apply IsS100.drewN | apply IsS100.drew | apply IsS100.set_0 | apply IsS100.set_1 | apply IsS100.set_2 | apply IsS100.set_3) | exact HI0.out)); (case side2 => repeat (first | (with_reducible first | exact HB.out | apply below_alloc | apply pw_below_drewN | apply below_drew1 | refine below_set ?_ (IsS100.ge HI0.out)) | exact HB.out)); rintro e w6 ⟨rfl, hi, hb, hk⟩; have n0_ := Aside0.mk (KeepBut.trans (by repeat (first | (with_reducible first | exact HK.out | apply KeepBut.set_ | apply keep_drewN | apply keep_drew | apply keep_alloc) | exact HK.out)) hk (.inl rfl)); have n1_ := Aside0.mk (hb); have n2_ := Aside0.mk (hi); clear HK HB HI0; have HK := n0_; have HB := n1_; have HI0 := n2_; clear n0_ n1_ n2_; (try clear hb); (try clear hb2); (try clear hk); (try clear hi); obtain ⟨HGz7, hgz7⟩ := HI0.out; have zau := cellS100_0 HGz7; have zav := cellS100_1 HGz7; have zaw := cellS100_2 HGz7; have zax := cellS100_3 HGz7; have zay := blk_frozen HGz7 0; have zaz := blk_frozen HGz7 1; have zaA := blk_frozen HGz7 2; have zaB := blk_frozen HGz7 3; clear HGz7 hgz7)); try go_wp2_with (first | (go_at_call 54; (with_reducible refine (scan_Scan_Err.calls g s0_0 s0_1 s0_2 s0_3 t108 t109 t110 t111 t112 w0 _ ?side1 ?side2 A3.out).mono ?_); (case side1 => repeat (first | (with_reducible first | exact HI0.out | apply IsS100.alloc | apply IsS100.drewN | apply IsS100.drew | apply IsS100.set_0 | apply IsS100.set_1 | apply IsS100.set_2 | apply IsS100.set_3) | exact HI0.out)); (case side2 => repeat (first | (with_reducible first | exact HB.out | apply below_alloc | apply pw_below_drewN | apply below_drew1 | refine below_set ?_ (IsS100.ge HI0.out)) | exact HB.out)); rintro e w6 ⟨rfl, hi, hb, hk⟩; have n0_ := Aside0.mk (KeepBut.trans (by repeat (first | (with_reducible first | exact HK.out | apply KeepBut.set_ | apply keep_drewN | apply keep_drew | apply keep_alloc) | exact HK.out)) hk (.inl rfl)); have n1_ := Aside0.mk (hb); have n2_ := Aside0.mk (hi); clear HK HB HI0; have HK := n0_; have HB := n1_; have HI0 := n2_; clear n0_ n1_ n2_; (try clear hb); (try clear hb2); (try clear hk); (try clear hi); obtain ⟨HGz7, hgz7⟩ := HI0.out; have zau := cellS100_0 HGz7; have zav := cellS100_1 HGz7; have zaw := cellS100_2 HGz7; have zax := cellS100_3 HGz7; have zay := blk_frozen HGz7 0; have zaz := blk_frozen HGz7 1; have zaA := blk_frozen HGz7 2; have zaB := blk_frozen HGz7 3; clear HGz7 hgz7)))
      go_ret
      exact ⟨by first | rfl | (simp [errW_none, errW_some] <;> rfl) | (simp [*, errW_none, errW_some] <;> rfl), by repeat (first | (with_reducible first | exact HI0.out | apply IsS100.alloc | apply IsS100.drewN | apply IsS100.drew | apply IsS100.set_0 | apply IsS100.set_1 | apply IsS100.set_2 | apply IsS100.set_3) | exact HI0.out), by repeat (first | (with_reducible first | exact HB.out | apply below_alloc | apply pw_below_drewN | apply below_drew1 | refine below_set ?_ (IsS100.ge HI0.out)) | exact HB.out), by repeat (first | (with_reducible first | exact HK.out | apply KeepBut.set_ | apply keep_drewN | apply keep_drew | apply keep_alloc) | exact HK.out)⟩
    · rw [if_neg c5] at H
      have c5b0 : decide (a1 < 0) = false := decide_eq_false c5
      clear c5
      by_cases c8 : a1 > (wrap64 ((t109.size : Int) - t110))
      · rw [if_pos c8] at H
        have c8b0 : decide ((wrap64 ((t109.size : Int) - t110)) < a1) = true := decide_eq_true c8
        clear c8
        simp only [Option.some.injEq, Prod.mk.injEq] at H
        obtain ⟨rfl, rfl, rfl, rfl, rfl⟩ := H
        go_enter Tryd.func53, Tryd.ntmps53
        go_wp2_with (first | (go_at_call 54; (with_reducible refine (scan_Scan_Err.calls g s0_0 s0_1 s0_2 s0_3 t108 t109 t110 t111 t112 w0 _ ?side1 ?side2 A3.out).mono ?_); (case side1 => repeat (first | (with_reducible first | exact HI0.out | apply IsS100.alloc | apply IsS100.drewN | apply IsS100.drew | apply IsS100.set_0 | apply IsS100.set_1 | apply IsS100.set_2 | apply IsS100.set_3) | exact HI0.out)); (case side2 => repeat (first | (with_reducible first | exact HB.out | apply below_alloc | apply pw_below_drewN | apply below_drew1 | refine below_set ?_ (IsS100.ge HI0.out)) | exact HB.out)); rintro e w9 ⟨rfl, hi, hb, hk⟩; have n0_ := Aside0.mk (KeepBut.trans (by repeat (first | (with_reducible first | exact HK.out | apply KeepBut.set_ | apply keep_drewN | apply keep_drew | apply keep_alloc) | exact HK.out)) hk (.inl rfl)); have n1_ := Aside0.mk (hb); have n2_ := Aside0.mk (hi); clear HK HB HI0; have HK := n0_; have HB := n1_; have HI0 := n2_; clear n0_ n1_ n2_; (try clear hb); (try clear hb2); (try clear hk); (try clear hi); obtain ⟨HGz10, hgz10⟩ := HI0.out; have zaC := cellS100_0 HGz10; have zaD := cellS100_1 HGz10; have zaE := cellS100_2 HGz10; have zaF := cellS100_3 HGz10; have zaG := blk_frozen HGz10 0; have zaH := blk_frozen HGz10 1; have zaI := blk_frozen HGz10 2; have zaJ := blk_frozen HGz10 3; clear HGz10 hgz10))
        repeat (go_quiet (first | (go_at_call 54; (with_reducible refine (scan_Scan_Err.calls g s0_0 s0_1 s0_2 s0_3 t108 t109 t110 t111 t112 w0 _ ?side1 ?side2 A3.out).mono ?_); (case side1 => repeat (first | (with_reducible first | exact HI0.out | apply IsS100.alloc | apply IsS100.drewN | apply IsS100.drew | apply IsS100.set_0 | apply IsS100.set_1 | apply IsS100.set_2 | apply IsS100.set_3) | exact HI0.out)); (case side2 => repeat (first | (with_reducible first | exact HB.out | apply below_alloc | apply pw_below_drewN | apply below_drew1 | refine below_set ?_ (IsS100.ge HI0.out)) | exact HB.out)); rintro e w9 ⟨rfl, hi, hb, hk⟩; have n0_ := Aside0.mk (KeepBut.trans (by repeat (first | (with_reducible first | exact HK.out | apply KeepBut.set_ | apply keep_drewN | apply keep_drew | apply keep_alloc) | exact HK.out)) hk (.inl rfl)); have n1_ := Aside0.mk (hb); have n2_ := Aside0.mk (hi); clear HK HB HI0; have HK := n0_; have HB := n1_; have HI0 := n2_; clear n0_ n1_ n2_; (try clear hb); (try clear hb2); (try clear hk); (try clear hi); obtain ⟨HGz10, hgz10⟩ := HI0.out; have zaC := cellS100_0 HGz10; have zaD := cellS100_1 HGz10; have zaE := cellS100_2 HGz10; have zaF := cellS100_3 HGz10; have zaG := blk_frozen HGz10 0; have zaH := blk_frozen HGz10 1; have zaI := blk_frozen HGz10 2; have zaJ := blk_frozen HGz10 3; clear HGz10 hgz10)); try go_wp2_with (first | (go_at_call 54; (with_reducible refine (scan_Scan_Err.calls g s0_0 s0_1 s0_2 s0_3 t108 t109 t110 t111 t112 w0 _ ?side1 ?side2 A3.out).mono ?_); (case side1 => repeat (first | (with_reducible first | exact HI0.out | apply IsS100.alloc | apply IsS100.drewN | apply IsS100.drew | apply IsS100.set_0 | apply IsS100.set_1 | apply IsS100.set_2 | apply IsS100.set_3) | exact HI0.out)); (case side2 => repeat (first | (with_reducible first | exact HB.out | apply below_alloc | apply pw_below_drewN | apply below_drew1 | refine below_set ?_ (IsS100.ge HI0.out)) | exact HB.out)); rintro e w9 ⟨rfl, hi, hb, hk⟩; have n0_ := Aside0.mk (KeepBut.trans (by repeat (first | (with_reducible first | exact HK.out | apply KeepBut.set_ | apply keep_drewN | apply keep_drew | apply keep_alloc) | exact HK.out)) hk (.inl rfl)); have n1_ := Aside0.mk (hb); have n2_ := Aside0.mk (hi); clear HK HB HI0; have HK := n0_; have HB := n1_; have HI0 := n2_; clear n0_ n1_ n2_; (try clear hb); (try clear hb2); (try clear hk); (try clear hi); obtain ⟨HGz10, hgz10⟩ := HI0.out; have zaC := cellS100_0 HGz10; have zaD := cellS100_1 HGz10; have zaE := cellS100_2 HGz10; have zaF := cellS100_3 HGz10; have zaG := blk_frozen HGz10 0; have zaH := blk_frozen HGz10 1; have zaI := blk_frozen HGz10 2; have zaJ := blk_frozen HGz10 3; clear HGz10 hgz10)))
        go_ret
        exact ⟨by first | rfl | (simp [errW_none, errW_some] <;> rfl) | (simp [*, errW_none, errW_some] <;> rfl), by repeat (first | (with_reducible first | exact HI0.out | apply IsS100.alloc | apply IsS100.drewN | apply IsS100.drew | apply IsS100.set_0 | apply IsS100.set_1 | apply IsS100.set_2 | apply IsS100.set_3) | exact HI0.out), by repeat (first | (with_reducible first | exact HB.out | apply below_alloc | apply pw_below_drewN | apply below_drew1 | refine below_set ?_ (IsS100.ge HI0.out)) | exact HB.out), by repeat (first | (with_reducible first | exact HK.out | apply KeepBut.set_ | apply keep_drewN | apply keep_drew | apply keep_alloc) | exact HK.out)⟩
      · rw [if_neg c8] at H
        have c8b0 : decide ((wrap64 ((t109.size : Int) - t110)) < a1) = false := decide_eq_false c8
        clear c8
        by_cases c11 : 0 ≤ t110
        · rw [if_pos c11] at H
          have c11b0 := eq_true c11
          have c11b1 : decide (0 ≤ t110) = true := decide_eq_true c11
          clear c11
          by_cases c12 : t110 ≤ (wrap64 (t110 + a1))
          · rw [if_pos c12] at H
            have c12b0 := eq_true c12
            have c12b1 : decide (t110 ≤ (wrap64 (t110 + a1))) = true := decide_eq_true c12
            by_cases c13 : (wrap64 (t110 + a1)) ≤ (t109.size : Int)
            · rw [if_pos c13] at H
              have c13b0 := eq_true c13
              have c13b1 : decide ((wrap64 (t110 + a1)) ≤ (t109.size : Int)) = true := decide_eq_true c13
              simp only [Option.some.injEq, Prod.mk.injEq] at H
              obtain ⟨rfl, rfl, rfl, rfl, rfl⟩ := H
              go_enter Tryd.func53, Tryd.ntmps53
              go_wp2_with (first | (go_at_call 54; (with_reducible refine (scan_Scan_Err.calls g s0_0 s0_1 s0_2 s0_3 t108 t109 t110 t111 t112 w0 _ ?side1 ?side2 A3.out).mono ?_); (case side1 => repeat (first | (with_reducible first | exact HI0.out | apply IsS100.alloc | apply IsS100.drewN | apply IsS100.drew | apply IsS100.set_0 | apply IsS100.set_1 | apply IsS100.set_2 | apply IsS100.set_3) | exact HI0.out)); (case side2 => repeat (first | (with_reducible first | exact HB.out | apply below_alloc | apply pw_below_drewN | apply below_drew1 | refine below_set ?_ (IsS100.ge HI0.out)) | exact HB.out)); rintro e w14 ⟨rfl, hi, hb, hk⟩; have n0_ := Aside0.mk (KeepBut.trans (by repeat (first | (with_reducible first | exact HK.out | apply KeepBut.set_ | apply keep_drewN | apply keep_drew | apply keep_alloc) | exact HK.out)) hk (.inl rfl)); have n1_ := Aside0.mk (hb); have n2_ := Aside0.mk (hi); clear HK HB HI0; have HK := n0_; have HB := n1_; have HI0 := n2_; clear n0_ n1_ n2_; (try clear hb); (try clear hb2); (try clear hk); (try clear hi); obtain ⟨HGz15, hgz15⟩ := HI0.out; have zaK := cellS100_0 HGz15; have zaL := cellS100_1 HGz15; have zaM := cellS100_2 HGz15; have zaN := cellS100_3 HGz15; have zaO := blk_frozen HGz15 0; have zaP := blk_frozen HGz15 1; have zaQ := blk_frozen HGz15 2; have zaR := blk_frozen HGz15 3; clear HGz15 hgz15))
              repeat (go_quiet (first | (go_at_call 54; (with_reducible refine (scan_Scan_Err.calls g s0_0 s0_1 s0_2 s0_3 t108 t109 t110 t111 t112 w0 _ ?side1 ?side2 A3.out).mono ?_); (case side1 => repeat (first | (with_reducible first | exact HI0.out | apply IsS100.alloc | apply IsS100.drewN | apply IsS100.drew | apply IsS100.set_0 | apply IsS100.set_1 | apply IsS100.set_2 | apply IsS100.set_3) | exact HI0.out)); (case side2 => repeat (first | (with_reducible first | exact HB.out | apply below_alloc | apply pw_below_drewN | apply below_drew1 | refine below_set ?_ (IsS100.ge HI0.out)) | exact HB.out)); rintro e w14 ⟨rfl, hi, hb, hk⟩; have n0_ := Aside0.mk (KeepBut.trans (by repeat (first | (with_reducible first | exact HK.out | apply KeepBut.set_ | apply keep_drewN | apply keep_drew | apply keep_alloc) | exact HK.out)) hk (.inl rfl)); have n1_ := Aside0.mk (hb); have n2_ := Aside0.mk (hi); clear HK HB HI0; have HK := n0_; have HB := n1_; have HI0 := n2_; clear n0_ n1_ n2_; (try clear hb); (try clear hb2); (try clear hk); (try clear hi); obtain ⟨HGz15, hgz15⟩ := HI0.out; have zaK := cellS100_0 HGz15; have zaL := cellS100_1 HGz15; have zaM := cellS100_2 HGz15; have zaN := cellS100_3 HGz15; have zaO := blk_frozen HGz15 0; have zaP := blk_frozen HGz15 1; have zaQ := blk_frozen HGz15 2; have zaR := blk_frozen HGz15 3; clear HGz15 hgz15)); try go_wp2_with (first | (go_at_call 54; (with_reducible refine (scan_Scan_Err.calls g s0_0 s0_1 s0_2 s0_3 t108 t109 t110 t111 t112 w0 _ ?side1 ?side2 A3.out).mono ?_); (case side1 => repeat (first | (with_reducible first | exact HI0.out | apply IsS100.alloc | apply IsS100.drewN | apply IsS100.drew | apply IsS100.set_0 | apply IsS100.set_1 | apply IsS100.set_2 | apply IsS100.set_3) | exact HI0.out)); (case side2 => repeat (first | (with_reducible first | exact HB.out | apply below_alloc | apply pw_below_drewN | apply below_drew1 | refine below_set ?_ (IsS100.ge HI0.out)) | exact HB.out)); rintro e w14 ⟨rfl, hi, hb, hk⟩; have n0_ := Aside0.mk (KeepBut.trans (by repeat (first | (with_reducible first | exact HK.out | apply KeepBut.set_ | apply keep_drewN | apply keep_drew | apply keep_alloc) | exact HK.out)) hk (.inl rfl)); have n1_ := Aside0.mk (hb); have n2_ := Aside0.mk (hi); clear HK HB HI0; have HK := n0_; have HB := n1_; have HI0 := n2_; clear n0_ n1_ n2_; (try clear hb); (try clear hb2); (try clear hk); (try clear hi); obtain ⟨HGz15, hgz15⟩ := HI0.out; have zaK := cellS100_0 HGz15; have zaL := cellS100_1 HGz15; have zaM := cellS100_2 HGz15; have zaN := cellS100_3 HGz15; have zaO := blk_frozen HGz15 0; have zaP := blk_frozen HGz15 1; have zaQ := blk_frozen HGz15 2; have zaR := blk_frozen HGz15 3; clear HGz15 hgz15)))
              go_ret
              exact ⟨by first | rfl | (simp [errW_none, errW_some] <;> rfl) | (simp [*, errW_none, errW_some] <;> rfl), by repeat (first | (with_reducible first | exact HI0.out | apply IsS100.alloc | apply IsS100.drewN | apply IsS100.drew | apply IsS100.set_0 | apply IsS100.set_1 | apply IsS100.set_2 | apply IsS100.set_3) | exact HI0.out), by repeat (first | (with_reducible first | exact HB.out | apply below_alloc | apply pw_below_drewN | apply below_drew1 | refine below_set ?_ (IsS100.ge HI0.out)) | exact HB.out), by repeat (first | (with_reducible first | exact HK.out | apply KeepBut.set_ | apply keep_drewN | apply keep_drew | apply keep_alloc) | exact HK.out)⟩
            · rw [if_neg c13] at H
              exact absurd H (by simp)
          · rw [if_neg c12] at H
            exact absurd H (by simp)
        · rw [if_neg c11] at H
          exact absurd H (by simp)
  · rw [if_neg c4] at H
    have c4b0 : (t108 == 0) = false := beq_eq_false_iff_ne.mpr c4
    have c4b1 : (t108 != 0) = true := bne_iff_ne.mpr c4
    simp only [Option.some.injEq, Prod.mk.injEq] at H
    obtain ⟨rfl, rfl, rfl, rfl, rfl⟩ := H
    go_enter Tryd.func53, Tryd.ntmps53
    go_wp2_with (first | (go_at_call 54; (with_reducible refine (scan_Scan_Err.calls g s0_0 s0_1 s0_2 s0_3 t108 t109 t110 t111 t112 w0 _ ?side1 ?side2 A3.out).mono ?_); (case side1 => repeat (first | (with_reducible first | exact HI0.out | apply IsS100.alloc | apply IsS100.drewN | apply IsS100.drew | apply IsS100.set_0 | apply IsS100.set_1 | apply IsS100.set_2 | apply IsS100.set_3) | exact HI0.out)); (case side2 => repeat (first | (with_reducible first | exact HB.out | apply below_alloc | apply pw_below_drewN | apply below_drew1 | refine below_set ?_ (IsS100.ge HI0.out)) | exact HB.out)); rintro e w16 ⟨rfl, hi, hb, hk⟩; have n0_ := Aside0.mk (KeepBut.trans (by repeat (first | (with_reducible first | exact HK.out | apply KeepBut.set_ | apply keep_drewN | apply keep_drew | apply keep_alloc) | exact HK.out)) hk (.inl rfl)); have n1_ := Aside0.mk (hb); have n2_ := Aside0.mk (hi); clear HK HB HI0; have HK := n0_; have HB := n1_; have HI0 := n2_; clear n0_ n1_ n2_; (try clear hb); (try clear hb2); (try clear hk); (try clear hi)))
    repeat (go_quiet (first | (go_at_call 54; (with_reducible refine (scan_Scan_Err.calls g s0_0 s0_1 s0_2 s0_3 t108 t109 t110 t111 t112 w0 _ ?side1 ?side2 A3.out).mono ?_); (case side1 => repeat (first | (with_reducible first | exact HI0.out | apply IsS100.alloc | apply IsS100.drewN | apply IsS100.drew | apply IsS100.set_0 | apply IsS100.set_1 | apply IsS100.set_2 | apply IsS100.set_3) | exact HI0.out)); (case side2 => repeat (first | (with_reducible first | exact HB.out | apply below_alloc | apply pw_below_drewN | apply below_drew1 | refine below_set ?_ (IsS100.ge HI0.out)) | exact HB.out)); rintro e w16 ⟨rfl, hi, hb, hk⟩; have n0_ := Aside0.mk (KeepBut.trans (by repeat (first | (with_reducible first | exact HK.out | apply KeepBut.set_ | apply keep_drewN | apply keep_drew | apply keep_alloc) | exact HK.out)) hk (.inl rfl)); have n1_ := Aside0.mk (hb); have n2_ := Aside0.mk (hi); clear HK HB HI0; have HK := n0_; have HB := n1_; have HI0 := n2_; clear n0_ n1_ n2_; (try clear hb); (try clear hb2); (try clear hk); (try clear hi))); try go_wp2_with (first | (go_at_call 54; (with_reducible refine (scan_Scan_Err.calls g s0_0 s0_1 s0_2 s0_3 t108 t109 t110 t111 t112 w0 _ ?side1 ?side2 A3.out).mono ?_); (case side1 => repeat (first | (with_reducible first | exact HI0.out | apply IsS100.alloc | apply IsS100.drewN | apply IsS100.drew | apply IsS100.set_0 | apply IsS100.set_1 | apply IsS100.set_2 | apply IsS100.set_3) | exact HI0.out)); (case side2 => repeat (first | (with_reducible first | exact HB.out | apply below_alloc | apply pw_below_drewN | apply below_drew1 | refine below_set ?_ (IsS100.ge HI0.out)) | exact HB.out)); rintro e w16 ⟨rfl, hi, hb, hk⟩; have n0_ := Aside0.mk (KeepBut.trans (by repeat (first | (with_reducible first | exact HK.out | apply KeepBut.set_ | apply keep_drewN | apply keep_drew | apply keep_alloc) | exact HK.out)) hk (.inl rfl)); have n1_ := Aside0.mk (hb); have n2_ := Aside0.mk (hi); clear HK HB HI0; have HK := n0_; have HB := n1_; have HI0 := n2_; clear n0_ n1_ n2_; (try clear hb); (try clear hb2); (try clear hk); (try clear hi))))
    go_ret
    exact ⟨by first | rfl | (simp [errW_none, errW_some] <;> rfl) | (simp [*, errW_none, errW_some] <;> rfl), by repeat (first | (with_reducible first | exact HI0.out | apply IsS100.alloc | apply IsS100.drewN | apply IsS100.drew | apply IsS100.set_0 | apply IsS100.set_1 | apply IsS100.set_2 | apply IsS100.set_3) | exact HI0.out), by repeat (first | (with_reducible first | exact HB.out | apply below_alloc | apply pw_below_drewN | apply below_drew1 | refine below_set ?_ (IsS100.ge HI0.out)) | exact HB.out), by repeat (first | (with_reducible first | exact HK.out | apply KeepBut.set_ | apply keep_drewN | apply keep_drew | apply keep_alloc) | exact HK.out)⟩

-- this session's own plain form
def scan_Scan_take.f (s0_0 : ByteArray) (s0_1 : Int) (s0_2 : Int) (s0_3 : Bool) (a1 : Int) : Option (ByteArray × ByteArray × Int × Int × Bool) :=
  if s0_3 = true then (if M.sok s0_0 s0_1 ∧ -9223372036854775808 ≤ a1 ∧ a1 ≤ 9223372036854775807 then some ((M.xfix s0_0 s0_1 s0_2 a1).1, s0_0, (M.xfix s0_0 s0_1 s0_2 a1).2.1, (M.xfix s0_0 s0_1 s0_2 a1).2.2, true) else none) else some (M.sb [], s0_0, s0_1, s0_2, s0_3)
theorem scan_Scan_take.ev (s : ByteArray) (p er : Int) (md : Bool) (n : Int) (r : ByteArray × ByteArray × Int × Int × Bool) (h : scan_Scan_take.f s p er md n = some r) : scan_Scan_take_p.f s p er md n = some r := by
  unfold scan_Scan_take.f at h
  unfold scan_Scan_take_p.f scan_Scan_Err.f
  cases md with
  | false => rw [if_neg (by simp)] at h ⊢; rw [Option.bind_some]; exact h
  | true =>
    rw [if_pos rfl] at h ⊢
    rw [Option.bind_some]
    split at h
    case isFalse => cases h
    case isTrue hh =>
      obtain ⟨hs, hn, hn'⟩ := hh
      rw [← h]
      unfold M.xfix
      by_cases he : er = 0
      · subst he
        have hc := M.fix_code s hs hn hn'
        simp only [if_true] at hc ⊢
        generalize M.sfix s p n = q at hc ⊢
        revert hc
        (repeat' split) <;> intro hc <;> first | (cases hc; rfl) | (cases hc; done)
      · simp only [if_neg he]; rfl
theorem scan_Scan_take.calls (g : Nat) (s0_0 : ByteArray) (s0_1 : Int) (s0_2 : Int) (s0_3 : Bool) (a1 : Int) (r1 : ByteArray) (r2 : ByteArray) (r3 : Int) (r4 : Int) (r5 : Bool) (w0 w : World) (hI : IsS100 w0 w g s0_0 s0_1 s0_2 s0_3) (hB : Below w0.heap.size w0 w) (h : scan_Scan_take.f s0_0 s0_1 s0_2 s0_3 a1 = some (r1, r2, r3, r4, r5)) :
    Calls Tryd.prog 53 #[.pointer (some ⟨g, 0, none⟩), .int .i64 a1] w fun e w' => e = .returned (.string r1) ∧ IsS100 w0 w' g r2 r3 r4 r5 ∧ Below w0.heap.size w0 w' ∧ KeepBut w w' g none := by
  exact scan_Scan_take_p.calls (w := w) (h := scan_Scan_take.ev _ _ _ _ _ _ h) (hI := hI) (hB := hB)

/-! ### scan_Scan_Byte_p: function 31 -/
def scan_Scan_Byte_p.f (s0_0 : ByteArray) (s0_1 : Int) (s0_2 : Int) (s0_3 : Bool) : Option (Int × ByteArray × Int × Int × Bool) := (scan_Scan_take.f s0_0 s0_1 s0_2 s0_3 1).bind fun bt113 => (if bt113.1.toList = ([] : List UInt8) then (some (0, bt113.2.1, bt113.2.2.1, bt113.2.2.2.1, bt113.2.2.2.2)) else (if 0 < (bt113.1.size : Int) then (some (wrap64 (bt bt113.1 0), bt113.2.1, bt113.2.2.1, bt113.2.2.2.1, bt113.2.2.2.2)) else (none)))
set_option maxHeartbeats 8000000 in
set_option maxRecDepth 100000 in
theorem scan_Scan_Byte_p.calls (g : Nat) (s0_0 : ByteArray) (s0_1 : Int) (s0_2 : Int) (s0_3 : Bool) (r1 : Int) (r2 : ByteArray) (r3 : Int) (r4 : Int) (r5 : Bool) (w0 w : World) (hI : IsS100 w0 w g s0_0 s0_1 s0_2 s0_3) (hB : Below w0.heap.size w0 w) (h : scan_Scan_Byte_p.f s0_0 s0_1 s0_2 s0_3 = some (r1, r2, r3, r4, r5)) :
    Calls Tryd.prog 31 #[.pointer (some ⟨g, 0, none⟩)] w fun e w' => e = .returned (.int .i64 r1) ∧ IsS100 w0 w' g r2 r3 r4 r5 ∧ Below w0.heap.size w0 w' ∧ KeepBut w w' g none := by
  have HI0 := Aside0.mk hI
  have HK := Aside0.mk (KeepBut.refl w g none)
  have HL := Aside0.mk hB.size
  clear hI
  have HW0 := Aside0.mk hB.size
  have HB := Aside0.mk hB
  clear hB
  have H : ((scan_Scan_take.f s0_0 s0_1 s0_2 s0_3 1).bind fun bt113 => (if bt113.1.toList = ([] : List UInt8) then (some (0, bt113.2.1, bt113.2.2.1, bt113.2.2.2.1, bt113.2.2.2.2)) else (if 0 < (bt113.1.size : Int) then (some (wrap64 (bt bt113.1 0), bt113.2.1, bt113.2.2.1, bt113.2.2.2.1, bt113.2.2.2.2)) else (none)))) = some (r1, r2, r3, r4, r5) := h
  clear h
  replace H := Option.bind_eq_some_iff.mp H
  obtain ⟨⟨t113, t114, t115, t116, t117⟩, A20, H⟩ := H
  replace H : (if t113.toList = ([] : List UInt8) then (some (0, t114, t115, t116, t117)) else (if 0 < (t113.size : Int) then (some (wrap64 (bt t113 0), t114, t115, t116, t117)) else (none))) = some (r1, r2, r3, r4, r5) := H
  have A2 := Aside0.mk A20
  clear A20
  by_cases c3 : t113.toList = ([] : List UInt8)
  · rw [if_pos c3] at H
    have c3b0 : (t113.toList == ([] : List UInt8)) = true := beq_iff_eq.mpr c3
    have c3b1 : (t113.toList != ([] : List UInt8)) = false := bne_eq_false_iff_eq.mpr c3
    clear c3
    simp only [Option.some.injEq, Prod.mk.injEq] at H
    obtain ⟨rfl, rfl, rfl, rfl, rfl⟩ := H
    go_enter Tryd.func31, Tryd.ntmps31
    go_wp2_with (first | ((with_reducible refine gate_callee (f := 53) rfl ?_); refine M.goes (some 5) Tryd.func53 #[.pointer (some ⟨g, 0, none⟩), .int .i64 1] rfl ?_; (with_reducible refine (scan_Scan_take.calls g s0_0 s0_1 s0_2 s0_3 1 t113 t114 t115 t116 t117 w0 _ ?side1 ?side2 A2.out).mono ?_); (case side1 => repeat (first | (with_reducible first | exact HI0.out | apply IsS100.alloc | apply IsS100.drewN | apply IsS100.drew | apply IsS100.set_0 | apply IsS100.set_1 | apply IsS100.set_2 | apply IsS100.set_3) | exact HI0.out)); (case side2 => repeat (first | (with_reducible first | exact HB.out | apply below_alloc | apply pw_below_drewN | apply below_drew1 | refine below_set ?_ (IsS100.ge HI0.out)) | exact HB.out)); rintro e w4 ⟨rfl, hi, hb, hk⟩; refine ⟨_, rfl, ?_⟩; have n0_ := Aside0.mk (KeepBut.trans (by repeat (first | (with_reducible first | exact HK.out | apply KeepBut.set_ | apply keep_drewN | apply keep_drew | apply keep_alloc) | exact HK.out)) hk (.inl rfl)); have n1_ := Aside0.mk (hb); have n2_ := Aside0.mk (hi); clear HK HB HI0; have HK := n0_; have HB := n1_; have HI0 := n2_; clear n0_ n1_ n2_; (try clear hb); (try clear hk); (try clear hi)))
    go_ret
    exact ⟨by first | rfl | (simp [errW_none, errW_some] <;> rfl) | (simp [*, errW_none, errW_some] <;> rfl), by repeat (first | (with_reducible first | exact HI0.out | apply IsS100.alloc | apply IsS100.drewN | apply IsS100.drew | apply IsS100.set_0 | apply IsS100.set_1 | apply IsS100.set_2 | apply IsS100.set_3) | exact HI0.out), by repeat (first | (with_reducible first | exact HB.out | apply below_alloc | apply pw_below_drewN | apply below_drew1 | refine below_set ?_ (IsS100.ge HI0.out)) | exact HB.out), by repeat (first | (with_reducible first | exact HK.out | apply KeepBut.set_ | apply keep_drewN | apply keep_drew | apply keep_alloc) | exact HK.out)⟩
  · rw [if_neg c3] at H
    have c3b0 : (t113.toList == ([] : List UInt8)) = false := beq_eq_false_iff_ne.mpr c3
    have c3b1 : (t113.toList != ([] : List UInt8)) = true := bne_iff_ne.mpr c3
    by_cases c5 : 0 < (t113.size : Int)
    · rw [if_pos c5] at H
      have c5b0 : decide (0 < (t113.size : Int)) = true := decide_eq_true c5
      have c5b1 : decide (0 < t113.size) = true := decide_eq_true (by omega)
      clear c5
      simp only [Option.some.injEq, Prod.mk.injEq] at H
      obtain ⟨rfl, rfl, rfl, rfl, rfl⟩ := H
      go_enter Tryd.func31, Tryd.ntmps31
      go_wp2_with (first | ((with_reducible refine gate_callee (f := 53) rfl ?_); refine M.goes (some 5) Tryd.func53 #[.pointer (some ⟨g, 0, none⟩), .int .i64 1] rfl ?_; (with_reducible refine (scan_Scan_take.calls g s0_0 s0_1 s0_2 s0_3 1 t113 t114 t115 t116 t117 w0 _ ?side1 ?side2 A2.out).mono ?_); (case side1 => repeat (first | (with_reducible first | exact HI0.out | apply IsS100.alloc | apply IsS100.drewN | apply IsS100.drew | apply IsS100.set_0 | apply IsS100.set_1 | apply IsS100.set_2 | apply IsS100.set_3) | exact HI0.out)); (case side2 => repeat (first | (with_reducible first | exact HB.out | apply below_alloc | apply pw_below_drewN | apply below_drew1 | refine below_set ?_ (IsS100.ge HI0.out)) | exact HB.out)); rintro e w7 ⟨rfl, hi, hb, hk⟩; refine ⟨_, rfl, ?_⟩; have n0_ := Aside0.mk (KeepBut.trans (by repeat (first | (with_reducible first | exact HK.out | apply KeepBut.set_ | apply keep_drewN | apply keep_drew | apply keep_alloc) | exact HK.out)) hk (.inl rfl)); have n1_ := Aside0.mk (hb); have n2_ := Aside0.mk (hi); clear HK HB HI0; have HK := n0_; have HB := n1_; have HI0 := n2_; clear n0_ n1_ n2_; (try clear hb); (try clear hk); (try clear hi); have p6 : 0 ≤ (0 : Int) := (by omega); have q6 : 0 < t113.size := (by have : (0 : Int) < (t113.size : Int) := of_decide_eq_true (by first | (with_reducible assumption) | assumption); omega); have hx6 : ∀ h : 0 < t113.size, ((t113[0]'h).toNat : Int) = bt t113 0 := bt_at t113 0; clear p6; have qi6 : (0 < (t113.size : Int)) = True := eq_true (of_decide_eq_true (by first | (with_reducible assumption) | assumption)); replace q6 := eq_true q6))
      go_ret
      exact ⟨by first | rfl | (simp [errW_none, errW_some] <;> rfl) | (simp [*, errW_none, errW_some] <;> rfl), by repeat (first | (with_reducible first | exact HI0.out | apply IsS100.alloc | apply IsS100.drewN | apply IsS100.drew | apply IsS100.set_0 | apply IsS100.set_1 | apply IsS100.set_2 | apply IsS100.set_3) | exact HI0.out), by repeat (first | (with_reducible first | exact HB.out | apply below_alloc | apply pw_below_drewN | apply below_drew1 | refine below_set ?_ (IsS100.ge HI0.out)) | exact HB.out), by repeat (first | (with_reducible first | exact HK.out | apply KeepBut.set_ | apply keep_drewN | apply keep_drew | apply keep_alloc) | exact HK.out)⟩
    · rw [if_neg c5] at H
      exact absurd H (by simp)

-- this session's own plain form
def scan_Scan_Byte.f (s0_0 : ByteArray) (s0_1 : Int) (s0_2 : Int) (s0_3 : Bool) : Option (Int × ByteArray × Int × Int × Bool) :=
  if s0_3 = true then (if M.sok s0_0 s0_1 then some ((M.xbyte s0_0 s0_1 s0_2).1, s0_0, (M.xbyte s0_0 s0_1 s0_2).2.1, (M.xbyte s0_0 s0_1 s0_2).2.2, true) else none) else some (0, s0_0, s0_1, s0_2, s0_3)
theorem scan_Scan_Byte.ev (s : ByteArray) (p er : Int) (md : Bool) (r : Int × ByteArray × Int × Int × Bool) (h : scan_Scan_Byte.f s p er md = some r) : scan_Scan_Byte_p.f s p er md = some r := by
  unfold scan_Scan_Byte.f at h
  have hnil : (M.sb []).toList = ([] : List UInt8) := by rw [M.toList_bs]; rfl
  unfold scan_Scan_Byte_p.f scan_Scan_take.f
  cases md with
  | false =>
    rw [if_neg (by simp)] at h ⊢
    rw [Option.bind_some]
    simp only
    rw [if_pos hnil]; exact h
  | true =>
    rw [if_pos rfl] at h ⊢
    split at h
    case isFalse => cases h
    case isTrue hs =>
      rw [if_pos ⟨hs, by decide, by decide⟩, Option.bind_some, ← h]
      have hb := M.byte_of s hs
      unfold M.xfix M.xbyte
      by_cases he : er = 0
      · simp only [if_pos he]
        by_cases hp : p < s.size
        · obtain ⟨e1, e2, e3⟩ := hb hp
          unfold M.sfix
          have c2 : ¬ ((1 : Int) < 0 ∨ (s.size : Int) - p < 1) := by omega
          rw [if_neg c2, if_pos hp]
          simp only
          rw [if_neg e1, if_pos e2, e3]
        · unfold M.sfix
          have c2 : (1 : Int) < 0 ∨ (s.size : Int) - p < 1 := by omega
          rw [if_pos c2, if_neg hp]
          simp only
          rw [if_pos hnil]
      · simp only [if_neg he]
        rw [if_pos hnil]
theorem scan_Scan_Byte.calls (g : Nat) (s0_0 : ByteArray) (s0_1 : Int) (s0_2 : Int) (s0_3 : Bool) (r1 : Int) (r2 : ByteArray) (r3 : Int) (r4 : Int) (r5 : Bool) (w0 w : World) (hI : IsS100 w0 w g s0_0 s0_1 s0_2 s0_3) (hB : Below w0.heap.size w0 w) (h : scan_Scan_Byte.f s0_0 s0_1 s0_2 s0_3 = some (r1, r2, r3, r4, r5)) :
    Calls Tryd.prog 31 #[.pointer (some ⟨g, 0, none⟩)] w fun e w' => e = .returned (.int .i64 r1) ∧ IsS100 w0 w' g r2 r3 r4 r5 ∧ Below w0.heap.size w0 w' ∧ KeepBut w w' g none := by
  exact scan_Scan_Byte_p.calls (w := w) (h := scan_Scan_Byte.ev _ _ _ _ _ h) (hI := hI) (hB := hB)

/-! ### varint_Get_p: function 55 -/
mutual
def varint_Get_p.l0 : Nat → ByteArray → Int → Int → Int → Option (Int × Int × Bool)
  | 0, _, _, _, _ => none
  | k + 1, x0, x2, x9, x10 => if x10 < x9 then (if 0 ≤ x10 then (if x10 < (x0.size : Int) then (if x10 = 9 then (varint_Get_p.j1 k x0 x2 x10 (IntKind.u64.wrap (bt x0 x10)) x9 x10 (decide ((IntKind.u64.wrap (bt x0 x10)) > 1))) else (varint_Get_p.j1 k x0 x2 x10 (IntKind.u64.wrap (bt x0 x10)) x9 x10 false)) else (none)) else (none)) else (some (0, 0, false))
def varint_Get_p.j1 : Nat → ByteArray → Int → Int → Int → Int → Int → Bool → Option (Int × Int × Bool)
  | 0, _, _, _, _, _, _, _ => none
  | k + 1, x0, x2, x5, x6, x9, x10, x22 => if x22 = true then (some (0, 0, false)) else (if 0 ≤ (wrap64 (7 * x5)) then (if x6 ≥ 128 then (varint_Get_p.l0 k x0 (Go.bits .or .u64 x2 (shl .u64 (Go.bits .and .u64 x6 127) (wrap64 (7 * x5)))) x9 (wrap64 (x10 + 1))) else (if x6 = 0 then (if x5 > 0 then (some (0, 0, false)) else (some (Go.bits .or .u64 x2 (shl .u64 (Go.bits .and .u64 x6 127) (wrap64 (7 * x5))), wrap64 (x5 + 1), true))) else (some (Go.bits .or .u64 x2 (shl .u64 (Go.bits .and .u64 x6 127) (wrap64 (7 * x5))), wrap64 (x5 + 1), true)))) else (none))
end
def varint_Get_p.f (k : Nat) (a0 : ByteArray) : Option (Int × Int × Bool) := varint_Get_p.l0 k a0 0 (mn (a0.size : Int) 10) 0
theorem varint_Get_p.mono_l : ∀ k, (∀ y0 y1 y2 y3, LeO (varint_Get_p.l0 k y0 y1 y2 y3) (varint_Get_p.l0 (k + 1) y0 y1 y2 y3)) ∧ (∀ y0 y1 y2 y3 y4 y5 y6, LeO (varint_Get_p.j1 k y0 y1 y2 y3 y4 y5 y6) (varint_Get_p.j1 (k + 1) y0 y1 y2 y3 y4 y5 y6))
  | 0 => ⟨fun _ _ _ _ r h => by simp [varint_Get_p.l0] at h, fun _ _ _ _ _ _ _ r h => by simp [varint_Get_p.j1] at h⟩
  | k + 1 => by
    obtain ⟨ih0, ih1⟩ := varint_Get_p.mono_l k
    refine ⟨?_, ?_⟩
    · intro y0 y1 y2 y3
      unfold varint_Get_p.l0
      repeat' first
      | (with_reducible exact ih0 _ _ _ _)
      | (with_reducible exact ih1 _ _ _ _ _ _ _)
      | (with_reducible exact LeO.refl _)
      | (with_reducible exact LeO.none _)
      | (with_reducible refine LeO.ite ?_ ?_)
      | (with_reducible refine LeO.bind ?_ (fun _ => ?_))
      | exact ih0 _ _ _ _
      | exact ih1 _ _ _ _ _ _ _
      | exact LeO.none _
      | refine LeO.ite ?_ ?_
      | refine LeO.bind ?_ (fun _ => ?_)
    · intro y0 y1 y2 y3 y4 y5 y6
      unfold varint_Get_p.j1
      repeat' first
      | (with_reducible exact ih0 _ _ _ _)
      | (with_reducible exact ih1 _ _ _ _ _ _ _)
      | (with_reducible exact LeO.refl _)
      | (with_reducible exact LeO.none _)
      | (with_reducible refine LeO.ite ?_ ?_)
      | (with_reducible refine LeO.bind ?_ (fun _ => ?_))
      | exact ih0 _ _ _ _
      | exact ih1 _ _ _ _ _ _ _
      | exact LeO.none _
      | refine LeO.ite ?_ ?_
      | refine LeO.bind ?_ (fun _ => ?_)
theorem varint_Get_p.mono : ∀ a0 k, LeO (varint_Get_p.f k a0) (varint_Get_p.f (k + 1) a0) := by
  intro a0 k
  obtain ⟨ih0, ih1⟩ := varint_Get_p.mono_l k
  unfold varint_Get_p.f
  repeat' first
      | (with_reducible exact ih0 _ _ _ _)
      | (with_reducible exact ih1 _ _ _ _ _ _ _)
      | (with_reducible exact LeO.refl _)
      | (with_reducible exact LeO.none _)
      | (with_reducible refine LeO.ite ?_ ?_)
      | (with_reducible refine LeO.bind ?_ (fun _ => ?_))
      | exact ih0 _ _ _ _
      | exact ih1 _ _ _ _ _ _ _
      | exact LeO.none _
      | refine LeO.ite ?_ ?_
      | refine LeO.bind ?_ (fun _ => ?_)
set_option maxHeartbeats 8000000 in
set_option maxRecDepth 100000 in
theorem varint_Get_p.calls (k : Nat) (a0 : ByteArray) (r1 : Int) (r2 : Int) (r3 : Bool) (w : World) (h : varint_Get_p.f k a0 = some (r1, r2, r3)) :
    Calls Tryd.prog 55 #[.string a0] w fun e w' => e = .returned (.tuple #[.int .u64 r1, .int .i64 r2, .bool r3]) ∧ Below w.heap.size w w' := by
  have HB := Aside0.mk (Below.refl w.heap.size w)
  have H : (varint_Get_p.l0 k a0 0 (mn (a0.size : Int) 10) 0) = some (r1, r2, r3) := h
  clear h
  obtain ⟨ji2, hji2⟩ : ∃ j_ : Int, (mn (a0.size : Int) 10) = j_ := ⟨_, rfl⟩
  replace H : (varint_Get_p.l0 k a0 0 ji2 0) = some (r1, r2, r3) := by first | (rw [hji2] at H; exact H) | (simp only [hji2] at H ⊢; exact H)
  (try (have hji2h : ji2 ≤ 10 := by (rw [← hji2]; unfold mn; (repeat' split) <;> omega)))
  (try (have hji2g : ji2 ≤ 64 := by omega))
  (try (have hji2l : 0 ≤ ji2 := by (rw [← hji2]; unfold mn; (repeat' split) <;> omega)))
  (try (have hji2m : 0 ≤ ji2 := by omega))
  have hji2_ : (if 10 < (a0.size : Int) then 10 else (a0.size : Int)) = ji2 := hji2
  have H' := Aside0.mk H
  clear H
  go_enter Tryd.func55, Tryd.ntmps55
  go_wp2
  go_loopg [2, 10] k (fun kq v2 v10 w' => ∃ (x2_1 : Int) (x10_1 : Int), v2 = .int .u64 x2_1 ∧ v10 = .int .i64 x10_1 ∧ Aside0 (varint_Get_p.l0 kq a0 x2_1 ji2 x10_1 = some (r1, r2, r3)) ∧ Aside0 (kq ≤ k) ∧ Aside0 (Below w.heap.size w w'))
  case atStart => exact ⟨(0), (0), (by first | rfl | (simp; done) | (simp [*]; done) | (simp [M.isEmpty_bne]; done)), (by first | rfl | (simp; done) | (simp [*]; done) | (simp [M.isEmpty_bne]; done)), H', ⟨Nat.le_refl _⟩, ⟨M.up HB⟩⟩
  case round =>
    clear H'
    try clear p2
    obtain ⟨x2_1, x10_1, rfl, rfl, HA, HK1, HB⟩ := hrel
    cases gk with
    | zero => exact absurd HA.out (by simp [varint_Get_p.l0])
    | succ k1 =>
      have H := HA.out
      clear HA
      simp only [varint_Get_p.l0] at H
      by_cases c3 : x10_1 < ji2
      · rw [if_pos c3] at H
        have c3b0 : decide (x10_1 < ji2) = true := decide_eq_true c3
        clear c3
        by_cases c4 : 0 ≤ x10_1
        · rw [if_pos c4] at H
          have c4b0 : decide (0 ≤ x10_1) = true := decide_eq_true c4
          clear c4
          by_cases c5 : x10_1 < (a0.size : Int)
          · rw [if_pos c5] at H
            have c5b0 : decide (x10_1 < (a0.size : Int)) = true := decide_eq_true c5
            clear c5
            have HC7 := Aside0.mk H
            clear H
            have p6 : 0 ≤ (x10_1 : Int) := of_decide_eq_true (by first | (with_reducible assumption) | assumption)
            have q6 : x10_1 < (a0.size : Int) := of_decide_eq_true (by first | (with_reducible assumption) | assumption)
            have hx6 := bt_at a0 x10_1
            replace p6 := eq_true p6
            replace q6 := eq_true q6
            go_upto_region 5 with (fail)
            go_cut [22] (fun v22 wc => ∃ (kq : Nat) (x22_6 : Bool), v22 = .bool x22_6 ∧ Aside0 (varint_Get_p.j1 kq a0 x2_1 x10_1 (IntKind.u64.wrap (bt a0 x10_1)) ji2 x10_1 x22_6 = some (r1, r2, r3)) ∧ Aside0 (kq ≤ k1) ∧ Aside0 (Below w.heap.size w wc))
            case first =>
              have H := HC7.out
              clear HC7
              by_cases c8 : x10_1 = 9
              · rw [if_pos c8] at H
                have c8b0 : (x10_1 == 9) = true := beq_iff_eq.mpr c8
                have c8b1 : (x10_1 != 9) = false := bne_eq_false_iff_eq.mpr c8
                clear c8
                (first | rw [c8b0] | (simp only [i64_w, i32_w]; rw [c8b0]) | skip)
                have H' := Aside0.mk H
                clear H
                go_wp2
                go_meet
                case rel => exact ⟨_, (decide ((IntKind.u64.wrap (bt a0 x10_1)) > 1)), (by first | rfl | (simp; done) | (simp [*]; done) | (simp [M.isEmpty_bne]; done)), H', ⟨by have := HK1.out; first | omega | exact Nat.le_refl _⟩, ⟨M.up HB⟩⟩
              · rw [if_neg c8] at H
                have c8b0 : (x10_1 == 9) = false := beq_eq_false_iff_ne.mpr c8
                have c8b1 : (x10_1 != 9) = true := bne_iff_ne.mpr c8
                (first | rw [c8b0] | (simp only [i64_w, i32_w]; rw [c8b0]) | skip)
                have H' := Aside0.mk H
                clear H
                go_wp2
                go_meet
                case rel => exact ⟨_, (false), (by first | rfl | (simp; done) | (simp [*]; done) | (simp [M.isEmpty_bne]; done)), H', ⟨by have := HK1.out; first | omega | exact Nat.le_refl _⟩, ⟨M.up HB⟩⟩
            case rest =>
              clear HC7
              try clear p2
              try clear c3
              try clear c3b0
              try clear c4
              try clear c4b0
              try clear c5
              try clear c5b0
              try clear p6
              try clear q6
              try clear hx6
              try clear c8
              try clear c8b0
              try clear c8b1
              try clear p2
              try clear p6
              try clear q6
              obtain ⟨kq, x22_6, rfl, HA, HJ6, HB⟩ := hcut
              cases kq with
              | zero => exact absurd HA.out (by simp [varint_Get_p.j1])
              | succ kj6 =>
                have H := HA.out
                clear HA
                simp only [varint_Get_p.j1] at H
                by_cases c9 : x22_6 = true
                · subst c9
                  have H1 : (some (0, 0, false)) = some (r1, r2, r3) := by rw [if_pos rfl] at H; exact H
                  clear H
                  have H := H1
                  clear H1
                  simp only [Option.some.injEq, Prod.mk.injEq] at H
                  obtain ⟨rfl, rfl, rfl⟩ := H
                  go_wp2
                  go_ret3
                  exact ⟨by first | rfl | (simp [errW_none, errW_some] <;> rfl) | (simp only [← hji2]; first | rfl | (simp [errW_none, errW_some] <;> rfl)) | (simp [*, errW_none, errW_some] <;> rfl), M.up HB⟩
                · replace c9 := Bool.eq_false_iff.mpr c9
                  subst c9
                  have H1 : (if 0 ≤ (wrap64 (7 * x10_1)) then (if (IntKind.u64.wrap (bt a0 x10_1)) ≥ 128 then (varint_Get_p.l0 kj6 a0 (Go.bits .or .u64 x2_1 (shl .u64 (Go.bits .and .u64 (IntKind.u64.wrap (bt a0 x10_1)) 127) (wrap64 (7 * x10_1)))) ji2 (wrap64 (x10_1 + 1))) else (if (IntKind.u64.wrap (bt a0 x10_1)) = 0 then (if x10_1 > 0 then (some (0, 0, false)) else (some (Go.bits .or .u64 x2_1 (shl .u64 (Go.bits .and .u64 (IntKind.u64.wrap (bt a0 x10_1)) 127) (wrap64 (7 * x10_1))), wrap64 (x10_1 + 1), true))) else (some (Go.bits .or .u64 x2_1 (shl .u64 (Go.bits .and .u64 (IntKind.u64.wrap (bt a0 x10_1)) 127) (wrap64 (7 * x10_1))), wrap64 (x10_1 + 1), true)))) else (none)) = some (r1, r2, r3) := by rw [if_neg (show ¬ (false = true) by decide)] at H; exact H
                  clear H
                  have H := H1
                  clear H1
                  obtain ⟨ji10, hji10⟩ : ∃ j_ : Int, (wrap64 (7 * x10_1)) = j_ := ⟨_, rfl⟩
                  replace H : (if 0 ≤ (ji10) then (if (IntKind.u64.wrap (bt a0 x10_1)) ≥ 128 then (varint_Get_p.l0 kj6 a0 (Go.bits .or .u64 x2_1 (shl .u64 (Go.bits .and .u64 (IntKind.u64.wrap (bt a0 x10_1)) 127) (ji10))) ji2 (wrap64 (x10_1 + 1))) else (if (IntKind.u64.wrap (bt a0 x10_1)) = 0 then (if x10_1 > 0 then (some (0, 0, false)) else (some (Go.bits .or .u64 x2_1 (shl .u64 (Go.bits .and .u64 (IntKind.u64.wrap (bt a0 x10_1)) 127) (ji10)), wrap64 (x10_1 + 1), true))) else (some (Go.bits .or .u64 x2_1 (shl .u64 (Go.bits .and .u64 (IntKind.u64.wrap (bt a0 x10_1)) 127) (ji10)), wrap64 (x10_1 + 1), true)))) else (none)) = some (r1, r2, r3) := by first | (rw [hji10] at H; exact H) | (simp only [hji10] at H ⊢; exact H)
                  have hji10w : (IntKind.i64.wrap (7 * x10_1)) = ji10 := (i64_w _).trans hji10
                  by_cases c11 : 0 ≤ (ji10)
                  · rw [if_pos c11] at H
                    have c11b0 := eq_true c11
                    have c11b1 : decide (0 ≤ (ji10)) = true := decide_eq_true c11
                    clear c11
                    obtain ⟨ji12, hji12⟩ : ∃ j_ : Int, (shl .u64 (Go.bits .and .u64 (IntKind.u64.wrap (bt a0 x10_1)) 127) (ji10)) = j_ := ⟨_, rfl⟩
                    replace H : (if (IntKind.u64.wrap (bt a0 x10_1)) ≥ 128 then (varint_Get_p.l0 kj6 a0 (Go.bits .or .u64 x2_1 (ji12)) ji2 (wrap64 (x10_1 + 1))) else (if (IntKind.u64.wrap (bt a0 x10_1)) = 0 then (if x10_1 > 0 then (some (0, 0, false)) else (some (Go.bits .or .u64 x2_1 (ji12), wrap64 (x10_1 + 1), true))) else (some (Go.bits .or .u64 x2_1 (ji12), wrap64 (x10_1 + 1), true)))) = some (r1, r2, r3) := by first | (rw [hji12] at H; exact H) | (simp only [hji12] at H ⊢; exact H)
                    have hji12_ : (IntKind.u64.wrap ((Go.bits .and .u64 (IntKind.u64.wrap (bt a0 x10_1)) 127) * 2 ^ min (ji10).toNat 64)) = ji12 := hji12
                    have hji12z : (ji10) ≤ 64 → (IntKind.u64.wrap ((Go.bits .and .u64 (IntKind.u64.wrap (bt a0 x10_1)) 127) * 2 ^ (ji10).toNat)) = ji12 := shl_small hji12
                    by_cases c13 : (IntKind.u64.wrap (bt a0 x10_1)) ≥ 128
                    · rw [if_pos c13] at H
                      have c13b0 : decide (128 ≤ (IntKind.u64.wrap (bt a0 x10_1))) = true := decide_eq_true c13
                      clear c13
                      have H' := Aside0.mk H
                      clear H
                      go_wp2
                      go_roundg kj6
                      case measure => have := HK1.out; have := HJ6.out; omega
                      case rel => exact ⟨(Go.bits .or .u64 x2_1 (ji12)), (wrap64 (x10_1 + 1)), (by first | rfl | (simp; done) | (simp only [← hji12] <;> (first | rfl | simp)) | (simp [*]; done)), (by first | rfl | (simp; done) | (simp [*]; done) | (simp [M.isEmpty_bne]; done)), H', ⟨by have := HK1.out; have := HJ6.out; omega⟩, ⟨M.up HB⟩⟩
                    · rw [if_neg c13] at H
                      have c13b0 : decide (128 ≤ (IntKind.u64.wrap (bt a0 x10_1))) = false := decide_eq_false c13
                      clear c13
                      by_cases c14 : (IntKind.u64.wrap (bt a0 x10_1)) = 0
                      · rw [if_pos c14] at H
                        have c14b0 : ((IntKind.u64.wrap (bt a0 x10_1)) == 0) = true := beq_iff_eq.mpr c14
                        have c14b1 : ((IntKind.u64.wrap (bt a0 x10_1)) != 0) = false := bne_eq_false_iff_eq.mpr c14
                        clear c14
                        by_cases c15 : x10_1 > 0
                        · rw [if_pos c15] at H
                          have c15b0 : decide (0 < x10_1) = true := decide_eq_true c15
                          clear c15
                          simp only [Option.some.injEq, Prod.mk.injEq] at H
                          obtain ⟨rfl, rfl, rfl⟩ := H
                          go_wp2
                          go_ret3
                          exact ⟨by first | rfl | (simp [errW_none, errW_some] <;> rfl) | (simp only [← hji2, ← hji10, ← hji12]; first | rfl | (simp [errW_none, errW_some] <;> rfl)) | (simp [*, errW_none, errW_some] <;> rfl), M.up HB⟩
                        · rw [if_neg c15] at H
                          have c15b0 : decide (0 < x10_1) = false := decide_eq_false c15
                          clear c15
                          simp only [Option.some.injEq, Prod.mk.injEq] at H
                          obtain ⟨rfl, rfl, rfl⟩ := H
                          go_wp2
                          go_ret3
                          exact ⟨by first | rfl | (simp [errW_none, errW_some] <;> rfl) | (simp only [← hji2, ← hji10, ← hji12]; first | rfl | (simp [errW_none, errW_some] <;> rfl)) | (simp [*, errW_none, errW_some] <;> rfl), M.up HB⟩
                      · rw [if_neg c14] at H
                        have c14b0 : ((IntKind.u64.wrap (bt a0 x10_1)) == 0) = false := beq_eq_false_iff_ne.mpr c14
                        have c14b1 : ((IntKind.u64.wrap (bt a0 x10_1)) != 0) = true := bne_iff_ne.mpr c14
                        simp only [Option.some.injEq, Prod.mk.injEq] at H
                        obtain ⟨rfl, rfl, rfl⟩ := H
                        go_wp2
                        go_ret3
                        exact ⟨by first | rfl | (simp [errW_none, errW_some] <;> rfl) | (simp only [← hji2, ← hji10, ← hji12]; first | rfl | (simp [errW_none, errW_some] <;> rfl)) | (simp [*, errW_none, errW_some] <;> rfl), M.up HB⟩
                  · rw [if_neg c11] at H
                    exact absurd H (by simp)
          · rw [if_neg c5] at H
            exact absurd H (by simp)
        · rw [if_neg c4] at H
          exact absurd H (by simp)
      · rw [if_neg c3] at H
        have c3b0 : decide (x10_1 < ji2) = false := decide_eq_false c3
        clear c3
        simp only [Option.some.injEq, Prod.mk.injEq] at H
        obtain ⟨rfl, rfl, rfl⟩ := H
        go_wp2
        go_ret3
        exact ⟨by first | rfl | (simp [errW_none, errW_some] <;> rfl) | (simp only [← hji2]; first | rfl | (simp [errW_none, errW_some] <;> rfl)) | (simp [*, errW_none, errW_some] <;> rfl), M.up HB⟩

-- this session's own plain form
def varint_Get.f (a0 : ByteArray) : Option (Int × Int × Bool) := some (M.vget a0)
theorem varint_Get.step (s : ByteArray) (i n q c : Nat) (hm : (i : Int) < mn (s.size : Int) 10) (hlt : i < s.size) (hi : i ≤ 9) (h9 : i = 9 → c ≤ 1)
    (hw : IntKind.u64.wrap (bt s (i : Int)) = (c : Int)) (hj : Go.bits .or .u64 (n : Int) (shl .u64 (Go.bits .and .u64 (c : Int) 127) (wrap64 (7 * (i : Int)))) = (q : Int)) (k : Nat) :
    varint_Get_p.l0 (k + 2) s (n : Int) (mn (s.size : Int) 10) (i : Int) =
      if (c : Int) ≥ 128 then varint_Get_p.l0 k s (q : Int) (mn (s.size : Int) 10) ((i + 1 : Nat) : Int)
      else if (c : Int) = 0 then (if (i : Int) > 0 then some (0, 0, false) else some ((q : Int), ((i + 1 : Nat) : Int), true))
      else some ((q : Int), ((i + 1 : Nat) : Int), true) := by
  have hi1 : wrap64 ((i : Int) + 1) = ((i + 1 : Nat) : Int) := by rw [M.wrap64_id (by omega) (by omega)]; omega
  have h7 : 0 ≤ wrap64 (7 * (i : Int)) := by rw [M.wrap64_id (by omega) (by omega)]; omega
  have hx : (if (i : Int) = 9 then varint_Get_p.j1 (k + 1) s (n : Int) (i : Int) (c : Int) (mn (s.size : Int) 10) (i : Int) (decide ((c : Int) > 1)) else varint_Get_p.j1 (k + 1) s (n : Int) (i : Int) (c : Int) (mn (s.size : Int) 10) (i : Int) false) =
      varint_Get_p.j1 (k + 1) s (n : Int) (i : Int) (c : Int) (mn (s.size : Int) 10) (i : Int) false := by
    split
    · rw [decide_eq_false (by omega)]
    · rfl
  simp only [varint_Get_p.l0]
  rw [if_pos hm, if_pos (Int.natCast_nonneg _), if_pos (Int.ofNat_lt.2 hlt), hw, hx]
  simp only [varint_Get_p.j1]
  rw [if_neg (by simp), if_pos h7, hj, hi1]
theorem varint_Get.loop (s : ByteArray) (d : Nat) : ∀ (i n : Nat), i + d = 9 → n < 128 ^ i → i ≤ s.size →
    ∃ k, varint_Get_p.l0 k s (n : Int) (mn (s.size : Int) 10) (i : Int) = some (M.vgo i n ((M.bs s).drop i)) := by
  induction d with
  | zero => ?_
  | succ d ih => ?_
  all_goals
    intro i n hd hn hi
    by_cases hlt : i < s.size
    case neg =>
      refine ⟨1, ?_⟩
      simp only [varint_Get_p.l0]
      rw [if_neg (by unfold mn; split <;> omega), List.drop_of_length_le (by rw [M.bs_length]; omega)]
      rfl
    case pos =>
      have hl : i < (M.bs s).length := by rw [M.bs_length]; exact hlt
      have hb := M.bt_bs s i hl
      have hdrop : (M.bs s).drop i = (M.bs s)[i] :: (M.bs s).drop (i + 1) := List.drop_eq_getElem_cons hl
      generalize (M.bs s)[i] = c at hb hdrop
      have hc := c.toNat_lt
      have hw : IntKind.u64.wrap (bt s (i : Int)) = (c.toNat : Int) := by rw [hb, M.u64_id (by omega) (by omega)]
      have hm : (i : Int) < mn (s.size : Int) 10 := by unfold mn; split <;> omega
      have hi9 : i ≤ 9 := by omega
      rw [hdrop]
      by_cases h9 : i = 9 ∧ 1 < c.toNat
      · refine ⟨2, ?_⟩
        simp only [varint_Get_p.l0, varint_Get_p.j1]
        rw [if_pos hm, if_pos (Int.natCast_nonneg _), if_pos (Int.ofNat_lt.2 hlt), if_pos (by omega), hw, if_pos (by simp; omega)]
        obtain ⟨rfl, h1⟩ := h9
        rw [M.vgo_nine n _ h1]
      · have h9' : i = 9 → c.toNat ≤ 1 := fun e => Nat.le_of_not_lt fun h => h9 ⟨e, h⟩
        have h64 := M.pow_64 (c := c.toNat) hi9 hn h9'
        have hj : Go.bits .or .u64 (n : Int) (shl .u64 (Go.bits .and .u64 (c.toNat : Int) 127) (wrap64 (7 * (i : Int)))) = ((n + c.toNat % 128 * 128 ^ i : Nat) : Int) := by
          rw [M.and127 hc, M.wrap64_id (by omega) (by omega), M.join64 hn (Nat.lt_of_le_of_lt (Nat.le_add_left _ _) h64) (Nat.lt_of_le_of_lt (Nat.le_add_right _ _) h64) hi9]
        have hstep := varint_Get.step s i n _ c.toNat hm hlt hi9 h9' hw hj
        clear hj hw hb hm h9
        by_cases h128 : c.toNat < 128
        · refine ⟨2, ?_⟩
          rw [hstep 0, if_neg (by omega), M.vgo_low _ _ _ h128]
          rw [Nat.mod_eq_of_lt h128] at h64 ⊢
          by_cases h0 : c.toNat = 0
          · rw [if_pos (by omega)]
            by_cases hi0 : i = 0
            · rw [if_neg (by omega), if_pos ⟨fun h => absurd hi0 h, h64⟩]
            · rw [if_pos (by omega), if_neg (fun h => h.1 hi0 h0)]
          · rw [if_neg (by omega), if_pos ⟨fun _ => h0, h64⟩]
        · have h8 : i ≤ 8 := by
            by_cases e : i = 9
            · have := h9' e; omega
            · omega
          first
          | (exfalso; omega)
          | (have hn' := M.pow_step (c := c.toNat) hn
             rw [M.vgo_high _ _ _ h128]
             generalize n + c.toNat % 128 * 128 ^ i = q at hstep hn' h64 ⊢
             obtain ⟨k, hk⟩ := ih (i + 1) q (by omega) hn' hlt
             refine ⟨k + 2, ?_⟩
             rw [hstep k, if_pos (by omega), hk]
             done)
theorem varint_Get.ev (a0 : ByteArray) (r : Int × Int × Bool) (h : varint_Get.f a0 = some r) : ∃ k, varint_Get_p.f k a0 = some r := by
  obtain rfl := Option.some.inj h
  obtain ⟨k, hk⟩ := varint_Get.loop a0 9 0 0 rfl (by decide) (Nat.zero_le _)
  refine ⟨k, ?_⟩
  unfold varint_Get_p.f
  rw [M.vgo_zero] at hk
  exact hk
theorem varint_Get.calls (a0 : ByteArray) (r1 : Int) (r2 : Int) (r3 : Bool) (w : World) (h : varint_Get.f a0 = some (r1, r2, r3)) :
    Calls Tryd.prog 55 #[.string a0] w fun e w' => e = .returned (.tuple #[.int .u64 r1, .int .i64 r2, .bool r3]) ∧ Below w.heap.size w w' := by
  obtain ⟨k, hk⟩ := varint_Get.ev _ _ h
  exact varint_Get_p.calls (k := k) (w := w) (h := hk)

/-! ### scan_Scan_fail: function 56 -/
def scan_Scan_fail.f (s0_0 : ByteArray) (s0_1 : Int) (s0_2 : Int) (s0_3 : Bool) (a1 : Int) : Option (ByteArray × Int × Int × Bool) := (scan_Scan_Err.f s0_0 s0_1 s0_2 s0_3).bind fun bt118 => (if bt118.1 = 0 then (some (bt118.2.1, bt118.2.2.1, a1, bt118.2.2.2.2)) else (some (bt118.2.1, bt118.2.2.1, bt118.2.2.2.1, bt118.2.2.2.2)))
set_option maxHeartbeats 8000000 in
set_option maxRecDepth 100000 in
theorem scan_Scan_fail.calls (g : Nat) (s0_0 : ByteArray) (s0_1 : Int) (s0_2 : Int) (s0_3 : Bool) (a1 : Int) (r1 : ByteArray) (r2 : Int) (r3 : Int) (r4 : Bool) (w0 w : World) (hI : IsS100 w0 w g s0_0 s0_1 s0_2 s0_3) (hB : Below w0.heap.size w0 w) (h : scan_Scan_fail.f s0_0 s0_1 s0_2 s0_3 a1 = some (r1, r2, r3, r4)) :
    Calls Tryd.prog 56 #[.pointer (some ⟨g, 0, none⟩), .int .i64 a1] w fun e w' => e = .returned (.tuple #[]) ∧ IsS100 w0 w' g r1 r2 r3 r4 ∧ Below w0.heap.size w0 w' ∧ KeepBut w w' g none := by
  have HI0 := Aside0.mk hI
  have HK := Aside0.mk (KeepBut.refl w g none)
  have HL := Aside0.mk hB.size
  clear hI
  have HW0 := Aside0.mk hB.size
  have HB := Aside0.mk hB
  clear hB
  have H : ((scan_Scan_Err.f s0_0 s0_1 s0_2 s0_3).bind fun bt118 => (if bt118.1 = 0 then (some (bt118.2.1, bt118.2.2.1, a1, bt118.2.2.2.2)) else (some (bt118.2.1, bt118.2.2.1, bt118.2.2.2.1, bt118.2.2.2.2)))) = some (r1, r2, r3, r4) := h
  clear h
  replace H := Option.bind_eq_some_iff.mp H
  obtain ⟨⟨t118, t119, t120, t121, t122⟩, A30, H⟩ := H
  replace H : (if t118 = 0 then (some (t119, t120, a1, t122)) else (some (t119, t120, t121, t122))) = some (r1, r2, r3, r4) := H
  have A3 := Aside0.mk A30
  clear A30
  by_cases c4 : t118 = 0
  · rw [if_pos c4] at H
    have c4b0 : (t118 == 0) = true := beq_iff_eq.mpr c4
    have c4b1 : (t118 != 0) = false := bne_eq_false_iff_eq.mpr c4
    clear c4
    simp only [Option.some.injEq, Prod.mk.injEq] at H
    obtain ⟨rfl, rfl, rfl, rfl⟩ := H
    go_enter Tryd.func56, Tryd.ntmps56
    go_wp2_with (first | ((with_reducible refine gate_callee (f := 54) rfl ?_); refine M.goes (some 5) Tryd.func54 #[.pointer (some ⟨g, 0, none⟩)] rfl ?_; (with_reducible refine (scan_Scan_Err.calls g s0_0 s0_1 s0_2 s0_3 t118 t119 t120 t121 t122 w0 _ ?side1 ?side2 A3.out).mono ?_); (case side1 => repeat (first | (with_reducible first | exact HI0.out | apply IsS100.alloc | apply IsS100.drewN | apply IsS100.drew | apply IsS100.set_0 | apply IsS100.set_1 | apply IsS100.set_2 | apply IsS100.set_3) | exact HI0.out)); (case side2 => repeat (first | (with_reducible first | exact HB.out | apply below_alloc | apply pw_below_drewN | apply below_drew1 | refine below_set ?_ (IsS100.ge HI0.out)) | exact HB.out)); rintro e w5 ⟨rfl, hi, hb, hk⟩; refine ⟨_, rfl, ?_⟩; have n0_ := Aside0.mk (KeepBut.trans (by repeat (first | (with_reducible first | exact HK.out | apply KeepBut.set_ | apply keep_drewN | apply keep_drew | apply keep_alloc) | exact HK.out)) hk (.inl rfl)); have n1_ := Aside0.mk (hb); have n2_ := Aside0.mk (hi); clear HK HB HI0; have HK := n0_; have HB := n1_; have HI0 := n2_; clear n0_ n1_ n2_; (try clear hb); (try clear hk); (try clear hi); obtain ⟨HGz6, hgz6⟩ := HI0.out; have zaS := cellS100_0 HGz6; have zaT := cellS100_1 HGz6; have zaU := cellS100_2 HGz6; have zaV := cellS100_3 HGz6; have zaW := blk_frozen HGz6 0; have zaX := blk_frozen HGz6 1; have zaY := blk_frozen HGz6 2; have zaZ := blk_frozen HGz6 3; clear HGz6 hgz6))
    first | go_end0 | ((try simp only [Exit.inBlock, Exit.then]); refine bodyPost_ret (results_none rfl _ _ _) rfl ?_)
    exact ⟨by first | rfl | (simp [errW_none, errW_some] <;> rfl) | (simp [*, errW_none, errW_some] <;> rfl), by repeat (first | (with_reducible first | exact HI0.out | apply IsS100.alloc | apply IsS100.drewN | apply IsS100.drew | apply IsS100.set_0 | apply IsS100.set_1 | apply IsS100.set_2 | apply IsS100.set_3) | exact HI0.out), by repeat (first | (with_reducible first | exact HB.out | apply below_alloc | apply pw_below_drewN | apply below_drew1 | refine below_set ?_ (IsS100.ge HI0.out)) | exact HB.out), by repeat (first | (with_reducible first | exact HK.out | apply KeepBut.set_ | apply keep_drewN | apply keep_drew | apply keep_alloc) | exact HK.out)⟩
  · rw [if_neg c4] at H
    have c4b0 : (t118 == 0) = false := beq_eq_false_iff_ne.mpr c4
    have c4b1 : (t118 != 0) = true := bne_iff_ne.mpr c4
    simp only [Option.some.injEq, Prod.mk.injEq] at H
    obtain ⟨rfl, rfl, rfl, rfl⟩ := H
    go_enter Tryd.func56, Tryd.ntmps56
    go_wp2_with (first | ((with_reducible refine gate_callee (f := 54) rfl ?_); refine M.goes (some 5) Tryd.func54 #[.pointer (some ⟨g, 0, none⟩)] rfl ?_; (with_reducible refine (scan_Scan_Err.calls g s0_0 s0_1 s0_2 s0_3 t118 t119 t120 t121 t122 w0 _ ?side1 ?side2 A3.out).mono ?_); (case side1 => repeat (first | (with_reducible first | exact HI0.out | apply IsS100.alloc | apply IsS100.drewN | apply IsS100.drew | apply IsS100.set_0 | apply IsS100.set_1 | apply IsS100.set_2 | apply IsS100.set_3) | exact HI0.out)); (case side2 => repeat (first | (with_reducible first | exact HB.out | apply below_alloc | apply pw_below_drewN | apply below_drew1 | refine below_set ?_ (IsS100.ge HI0.out)) | exact HB.out)); rintro e w7 ⟨rfl, hi, hb, hk⟩; refine ⟨_, rfl, ?_⟩; have n0_ := Aside0.mk (KeepBut.trans (by repeat (first | (with_reducible first | exact HK.out | apply KeepBut.set_ | apply keep_drewN | apply keep_drew | apply keep_alloc) | exact HK.out)) hk (.inl rfl)); have n1_ := Aside0.mk (hb); have n2_ := Aside0.mk (hi); clear HK HB HI0; have HK := n0_; have HB := n1_; have HI0 := n2_; clear n0_ n1_ n2_; (try clear hb); (try clear hk); (try clear hi)))
    first | go_end0 | ((try simp only [Exit.inBlock, Exit.then]); refine bodyPost_ret (results_none rfl _ _ _) rfl ?_)
    exact ⟨by first | rfl | (simp [errW_none, errW_some] <;> rfl) | (simp [*, errW_none, errW_some] <;> rfl), by repeat (first | (with_reducible first | exact HI0.out | apply IsS100.alloc | apply IsS100.drewN | apply IsS100.drew | apply IsS100.set_0 | apply IsS100.set_1 | apply IsS100.set_2 | apply IsS100.set_3) | exact HI0.out), by repeat (first | (with_reducible first | exact HB.out | apply below_alloc | apply pw_below_drewN | apply below_drew1 | refine below_set ?_ (IsS100.ge HI0.out)) | exact HB.out), by repeat (first | (with_reducible first | exact HK.out | apply KeepBut.set_ | apply keep_drewN | apply keep_drew | apply keep_alloc) | exact HK.out)⟩

/-! ### scan_Scan_Num: function 32 -/
def scan_Scan_Num.f (s0_0 : ByteArray) (s0_1 : Int) (s0_2 : Int) (s0_3 : Bool) (a1 : Int) : Option (Int × ByteArray × Int × Int × Bool) :=
  if s0_3 = true ∧ s0_2 = 0 then (if M.sok s0_0 s0_1 ∧ a1 ≤ 9223372036854775807 then some ((M.snum s0_0 s0_1 a1).1, s0_0, (M.snum s0_0 s0_1 a1).2.1, (M.snum s0_0 s0_1 a1).2.2, true) else none) else some (0, s0_0, s0_1, s0_2, s0_3)

theorem scan_Scan_Num.off (g : Nat) (s : ByteArray) (p er most : Int) (md : Bool) (w0 w : World) (hI : IsS100 w0 w g s p er md) (hB : Below w0.heap.size w0 w)
    (hm : ¬ (md = true ∧ er = 0)) :
    Calls Tryd.prog 32 #[.pointer (some ⟨g, 0, none⟩), .int .i64 most] w fun e w' => e = .returned (.int .i64 0) ∧ IsS100 w0 w' g s p er md ∧ Below w0.heap.size w0 w' ∧ KeepBut w w' g none := by
  obtain ⟨q, hq0, hq⟩ : ∃ q, q ≠ 0 ∧ scan_Scan_Err.f s p er md = some (q, s, p, er, md) := by
    unfold scan_Scan_Err.f
    split
    · rename_i h; exact ⟨er, fun h0 => hm ⟨h, h0⟩, rfl⟩
    · exact ⟨1, by decide, rfl⟩
  have hb0 : (q == 0) = false := by simpa using hq0
  have hb1 : (q != 0) = true := by simpa using hq0
  have HQ := Aside0.mk hq
  clear hq hm hq0
  go_enter Tryd.func32, Tryd.ntmps32
  go_wp2_with (go_at_call 54; refine (scan_Scan_Err.calls g s p er md q s p er md w0 _ hI hB HQ.out).mono ?_; rintro e w1 ⟨rfl, hi, hb, hk1⟩)
  go_ret
  exact ⟨rfl, hi, hb, hk1⟩

set_option maxHeartbeats 1000000 in
theorem scan_Scan_Num.bad (g : Nat) (s : ByteArray) (p most n k : Int) (w0 w : World) (hI : IsS100 w0 w g s p 0 true) (hB : Below w0.heap.size w0 w)
    (h0 : 0 ≤ p) (h1 : p ≤ s.size) (hs : s.size ≤ 9223372036854775807) (hg : varint_Get.f (s.extract p.toNat s.size) = some (n, k, false)) :
    Calls Tryd.prog 32 #[.pointer (some ⟨g, 0, none⟩), .int .i64 most] w fun e w' => e = .returned (.int .i64 0) ∧ IsS100 w0 w' g s p 3 true ∧ Below w0.heap.size w0 w' ∧ KeepBut w w' g none := by
  go_enter Tryd.func32, Tryd.ntmps32
  go_wp2_with (go_at_call 54; refine (scan_Scan_Err.calls g s p 0 true 0 s p 0 true w0 _ hI hB rfl).mono ?_; rintro e w1 ⟨rfl, hi, hb, hk1⟩)
  have hc0 := cellS100_0 hi.1
  have hc1 := cellS100_1 hi.1
  have hc2 := cellS100_2 hi.1
  have HG := Aside0.mk hg
  have HI := Aside0.mk hi
  clear hg hi hI
  go_region_with (go_at_call 55; refine (varint_Get.calls (s.extract p.toNat s.size) n k false _ HG.out).mono ?_; rintro e w2 ⟨rfl, hb2⟩)
  all_goals
    have hi2 := IsS100.below (W := w1.drew) HI.out hb2
    have hb3 := below_then (below_drew hb) (below_drew hb).size hb2
    have hk2 := KeepBut.trans (keep_drew hk1) (KeepBut.of_below hb2 g none) (.inl rfl)
    clear hc0 hc1 hc2
    go_wp2_with (go_at_call 56; refine (scan_Scan_fail.calls g s p 0 true 3 s p 3 true w0 _ hi2 hb3 rfl).mono ?_; rintro e w3 ⟨rfl, hi4, hb4, hk4⟩)
    go_ret
    exact ⟨rfl, hi4, hb4, KeepBut.trans hk2 hk4 (.inl rfl)⟩

set_option maxHeartbeats 1000000 in
theorem scan_Scan_Num.much (g : Nat) (s : ByteArray) (p most n k : Int) (w0 w : World) (hI : IsS100 w0 w g s p 0 true) (hB : Below w0.heap.size w0 w)
    (h0 : 0 ≤ p) (h1 : p ≤ s.size) (hs : s.size ≤ 9223372036854775807) (hg : varint_Get.f (s.extract p.toNat s.size) = some (n, k, true)) (hm : most < 0 ∨ most < n) (hmm : most ≤ 9223372036854775807) (hn0 : 0 ≤ n) :
    Calls Tryd.prog 32 #[.pointer (some ⟨g, 0, none⟩), .int .i64 most] w fun e w' => e = .returned (.int .i64 0) ∧ IsS100 w0 w' g s p 5 true ∧ Below w0.heap.size w0 w' ∧ KeepBut w w' g none := by
  go_enter Tryd.func32, Tryd.ntmps32
  go_wp2_with (go_at_call 54; refine (scan_Scan_Err.calls g s p 0 true 0 s p 0 true w0 _ hI hB rfl).mono ?_; rintro e w1 ⟨rfl, hi, hb, hk1⟩)
  have hc0 := cellS100_0 hi.1
  have hc1 := cellS100_1 hi.1
  have hc2 := cellS100_2 hi.1
  have HG := Aside0.mk hg
  have HI := Aside0.mk hi
  clear hg hi hI
  go_region_with (go_at_call 55; refine (varint_Get.calls (s.extract p.toNat s.size) n k true _ HG.out).mono ?_; rintro e w2 ⟨rfl, hb2⟩)
  all_goals
    have hi2 := IsS100.below (W := w1.drew) HI.out hb2
    have hb3 := below_then (below_drew hb) (below_drew hb).size hb2
    have hk2 := KeepBut.trans (keep_drew hk1) (KeepBut.of_below hb2 g none) (.inl rfl)
    clear hc0 hc1 hc2
    by_cases hneg : most < 0
    case pos =>
      have ht0 : decide (most < 0) = true := decide_eq_true hneg
      go_wp2_with (go_at_call 56; refine (scan_Scan_fail.calls g s p 0 true 5 s p 5 true w0 _ hi2 hb3 rfl).mono ?_; rintro e w3 ⟨rfl, hi4, hb4, hk4⟩)
      go_ret
      exact ⟨rfl, hi4, hb4, KeepBut.trans hk2 hk4 (.inl rfl)⟩
    case neg =>
      have hmn : 0 ≤ most := by omega
      have ht0 : decide (most < 0) = false := decide_eq_false hneg
      have hlt : most < n := by omega
      have ht1 : decide (n > most) = true := decide_eq_true hlt
      clear hm hneg
      go_wp2_with (go_at_call 56; refine (scan_Scan_fail.calls g s p 0 true 5 s p 5 true w0 _ hi2 hb3 rfl).mono ?_; rintro e w3 ⟨rfl, hi4, hb4, hk4⟩)
      go_ret
      exact ⟨rfl, hi4, hb4, KeepBut.trans hk2 hk4 (.inl rfl)⟩

set_option maxHeartbeats 1000000 in
theorem scan_Scan_Num.good (g : Nat) (s : ByteArray) (p most n k : Int) (w0 w : World) (hI : IsS100 w0 w g s p 0 true) (hB : Below w0.heap.size w0 w)
    (h0 : 0 ≤ p) (h1 : p ≤ s.size) (hs : s.size ≤ 9223372036854775807) (hg : varint_Get.f (s.extract p.toNat s.size) = some (n, k, true)) (hm : 0 ≤ most) (hn : n ≤ most) (hmm : most ≤ 9223372036854775807) (hk : p + k ≤ s.size) (hk0 : 0 ≤ k) (hn0 : 0 ≤ n) :
    Calls Tryd.prog 32 #[.pointer (some ⟨g, 0, none⟩), .int .i64 most] w fun e w' => e = .returned (.int .i64 n) ∧ IsS100 w0 w' g s (p + k) 0 true ∧ Below w0.heap.size w0 w' ∧ KeepBut w w' g none := by
  go_enter Tryd.func32, Tryd.ntmps32
  go_wp2_with (go_at_call 54; refine (scan_Scan_Err.calls g s p 0 true 0 s p 0 true w0 _ hI hB rfl).mono ?_; rintro e w1 ⟨rfl, hi, hb, hk1⟩)
  have hc0 := cellS100_0 hi.1
  have hc1 := cellS100_1 hi.1
  have hc2 := cellS100_2 hi.1
  have HG := Aside0.mk hg
  have HI := Aside0.mk hi
  clear hg hi hI
  go_region_with (go_at_call 55; refine (varint_Get.calls (s.extract p.toNat s.size) n k true _ HG.out).mono ?_; rintro e w2 ⟨rfl, hb2⟩)
  all_goals
    have hi2 := IsS100.below (W := w1.drew) HI.out hb2
    have hb3 := below_then (below_drew hb) (below_drew hb).size hb2
    have hk2 := KeepBut.trans (keep_drew hk1) (KeepBut.of_below hb2 g none) (.inl rfl)
    have hd1 := cellS100_1 hi2.1
    have he1 := blk_frozen hi2.1 1
    have HI2 := Aside0.mk hi2
    clear hi2 hc0 hc1 hc2
    go_wp2
    go_ret
    exact ⟨rfl, IsS100.set_1 HI2.out (p + k), below_set hb3 (IsS100.ge HI2.out), KeepBut.set_ hk2 _ _⟩

theorem scan_Scan_Num.calls (g : Nat) (s0_0 : ByteArray) (s0_1 : Int) (s0_2 : Int) (s0_3 : Bool) (a1 : Int) (r1 : Int) (r2 : ByteArray) (r3 : Int) (r4 : Int) (r5 : Bool) (w0 w : World) (hI : IsS100 w0 w g s0_0 s0_1 s0_2 s0_3) (hB : Below w0.heap.size w0 w) (h : scan_Scan_Num.f s0_0 s0_1 s0_2 s0_3 a1 = some (r1, r2, r3, r4, r5)) :
    Calls Tryd.prog 32 #[.pointer (some ⟨g, 0, none⟩), .int .i64 a1] w fun e w' => e = .returned (.int .i64 r1) ∧ IsS100 w0 w' g r2 r3 r4 r5 ∧ Below w0.heap.size w0 w' ∧ KeepBut w w' g none := by
  unfold scan_Scan_Num.f at h
  split at h
  case isFalse hm =>
    simp only [Option.some.injEq, Prod.mk.injEq] at h
    obtain ⟨rfl, rfl, rfl, rfl, rfl⟩ := h
    exact scan_Scan_Num.off g _ _ _ a1 _ w0 w hI hB hm
  case isTrue hm =>
    obtain ⟨rfl, rfl⟩ := hm
    split at h
    case isFalse => cases h
    case isTrue hh =>
      obtain ⟨⟨h0, h1, hs⟩, hmm⟩ := hh
      have hv := M.vget_at s0_0 ⟨h0, h1, hs⟩
      simp only [Option.some.injEq, Prod.mk.injEq] at h
      obtain ⟨rfl, rfl, rfl, rfl, rfl⟩ := h
      have hg : varint_Get.f (s0_0.extract s0_1.toNat s0_0.size) = some (M.vget (s0_0.extract s0_1.toNat s0_0.size)) := rfl
      unfold M.snum
      generalize M.vget (s0_0.extract s0_1.toNat s0_0.size) = q at hg hv ⊢
      obtain ⟨n, k, b⟩ := q
      cases b with
      | false => exact scan_Scan_Num.bad g s0_0 s0_1 a1 n k w0 w hI hB h0 h1 hs hg
      | true =>
        simp only [if_true]
        by_cases hx : a1 < 0 ∨ a1 < n
        · rw [if_pos hx]
          exact scan_Scan_Num.much g s0_0 s0_1 a1 n k w0 w hI hB h0 h1 hs hg hx hmm hv.1
        · rw [if_neg hx]
          exact scan_Scan_Num.good g s0_0 s0_1 a1 n k w0 w hI hB h0 h1 hs hg (by omega) (by omega) hmm hv.2.2.2 hv.2.2.1 hv.1
theorem scan_Scan_Num.eq (s : ByteArray) (p er most : Int) (hs : M.sok s p) (hm : most ≤ 9223372036854775807) :
    scan_Scan_Num.f s p er true most = some ((M.xnum s p er most).1, s, (M.xnum s p er most).2.1, (M.xnum s p er most).2.2, true) := by
  unfold scan_Scan_Num.f M.xnum
  by_cases he : er = 0
  · rw [if_pos ⟨rfl, he⟩, if_pos ⟨hs, hm⟩]; simp only [if_pos he]
  · rw [if_neg (fun z => he z.2)]; simp only [if_neg he]

end Go.Proofs.YtikdbklmhjlfoaaDoor.ECommitPuts
