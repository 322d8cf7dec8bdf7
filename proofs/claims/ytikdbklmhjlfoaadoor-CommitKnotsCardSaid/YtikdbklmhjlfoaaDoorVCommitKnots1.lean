-- Laid by this session's own program (wip/tools/fold.py): this session's texts, cut to what the claim names and put together; Lean checks it.
import Derived.Test.YtikdbklmhjlfoaaDoorUCommitKnots1
import Derived.Test.YtikdbklmhjlfoaaDoorXCommitKnots1
import Derived.Test.YtikdbklmhjlfoaaDoorUCommitKnots2
import Derived.Test.YtikdbklmhjlfoaaDoorProg
import Derived.Below
import Derived.Deep.Draws
import Derived.Deep.AppendLies
import Derived.Maps.AppendAt
import Derived.OwnWalk
import Derived.Laws.BytesArg
import Derived.Laws.MakeOwn
import Derived.Laws.OwnMore
import Derived.Deep.OwnRows
import Derived.Tactics
import Derived.Lib.ConvBytes
import Derived.Laws.Slices
import Derived.WalkKit
import Derived.KernelRfl
import Derived.RowKit3
import Derived.Deep.LoopGhost
import Derived.Deep.QuietTactic
import Derived.BigQuiet
import Derived.WideLaws
import Derived.Deep.DeepCutAuto
import Derived.Deep.CutBlock
import Derived.Deep.RegionHeld3
import Derived.Laws.Rows
import Derived.Lib.AppendStr
import Derived.ArgAppend
import Derived.Laws.IdiomCopy
import Derived.OrdersHeld
import Derived.Laws.BitsLemmas
import Derived.RowKit
import Derived.Deep.RegionLaw
import Derived.Maps.Own
import Derived.Maps.OwnOps
import Derived.Maps.OwnSet
import Derived.Maps.Views
import Derived.Shelf.SlIterI.Sorted
import Derived.Shelf.Slices.In.SortNone
import Derived.Shelf.Sort.Plain
import Derived.WideKeyEntry
namespace Go.Proofs.YtikdbklmhjlfoaaDoor.ECommitKnots
open Go.RowKit Go.Proofs.YtikdbklmhjlfoaaDoorW.PrintWords Go.Proofs.YtikdbklmhjlfoaaDoorW.PrintLast Go.Proofs.YtikdbklmhjlfoaaDoorW.PrintMore
attribute [local go_sem] M.run_leq M.run_gtr M.run_geq max2_int min2_int max_two min_two max_three min_three max_four min_four
set_option linter.unusedVariables false
set_option linter.unusedSimpArgs false
def errW : Option Int → Value
  | none => .nilIface
  | some c => .iface 0 (.int .i64 c)
theorem errW_none : errW none = .nilIface := rfl
theorem errW_some (c : Int) : errW (some c) = .iface 0 (.int .i64 c) := rfl
theorem info3 : (Tryd.prog.info? 3).map (fun i => (i.zero, i.size, i.bytes)) = some (some (.int .i64 0), 1, 8) := by kernel_rfl
theorem info5 : (Tryd.prog.info? 5).map (fun i => (i.zero, i.size, i.bytes)) = some (some (.int .u8 0), 1, 1) := by kernel_rfl
theorem info9 : (Tryd.prog.info? 9).map (fun i => (i.zero, i.size, i.bytes)) = some (some (.string ⟨#[]⟩), 1, 16) := by kernel_rfl
theorem info116 : (Tryd.prog.info? 116).map (fun i => (i.zero, i.size, i.bytes)) = some (some (.int .u32 0), 1, 4) := by kernel_rfl
structure S24 where
  f0 : Int
  f1 : (List ByteArray)
  f2 : ByteArray
  f3 : ByteArray
def z24 : S24 := ⟨(0 : Int), ([] : List ByteArray), (⟨#[]⟩ : ByteArray), (⟨#[]⟩ : ByteArray)⟩
def k24 : Kd S24 := Kd.iso (Kd.pair (Kd.int .i64) (Kd.pair (Kd.slice 9 Kd.string) (Kd.pair Kd.string Kd.string))) (fun x : S24 => (x.f0, x.f1, x.f2, x.f3))
theorem k24_open {w : World} {x : S24} {cs : List Value} (h : k24.K w x cs) : ∃ A1 c1, cs = [.int .i64 x.f0, .slice A1 x.f1.length c1, .string x.f2, .string x.f3] ∧ x.f1.length ≤ c1 ∧ Kd.string.C w A1 x.f1.length x.f1 := by
 obtain ⟨_, _, rfl, rfl, ⟨_, _, rfl, ⟨A1, c1, rfl, l1, g1⟩, ⟨_, _, rfl, rfl, rfl⟩⟩⟩ := h
 exact ⟨A1, c1, rfl, l1, g1⟩
theorem k24_openM {w : World} {base : Nat} {ok : Nat → Prop} {x : S24} {cs : List Value} (h : k24.M w base ok x cs) : ∃ v1, cs = [.int .i64 x.f0, v1, .string x.f2, .string x.f3] ∧ Kd.string.R 9 w base ok v1 x.f1 := by
 obtain ⟨_, _, rfl, rfl, ⟨_, _, rfl, ⟨v1, rfl, g1⟩, ⟨_, _, rfl, rfl, rfl⟩⟩⟩ := h
 exact ⟨v1, rfl, g1⟩
theorem k24_mkM (w : World) (base : Nat) (ok : Nat → Prop) (x : S24) {v1 : Value} (g1 : Kd.string.R 9 w base ok v1 x.f1) : k24.M w base ok x [.int .i64 x.f0, v1, .string x.f2, .string x.f3] := ⟨[.int .i64 x.f0], [v1, .string x.f2, .string x.f3], rfl, rfl, ⟨[v1], [.string x.f2, .string x.f3], rfl, ⟨v1, rfl, g1⟩, ⟨[.string x.f2], [.string x.f3], rfl, rfl, rfl⟩⟩⟩
def rd_T24 (xs : List S24) (i : Int) : S24 := xs.getD i.toNat z24
theorem at_T24 {w : World} {A : Option Addr} {n : Nat} {xs : List S24} (h : Kd.C k24 w A n xs) (i : Int) (h0 : 0 ≤ i) (h1 : i < n) : ∃ ad A1 c1, A = some ad ∧ w.cell? (ad.add (i.toNat * 4)) = some (.int .i64 (rd_T24 xs i).f0) ∧ w.cell? ⟨(ad.add (i.toNat * 4)).block, (ad.add (i.toNat * 4)).off + 1, none⟩ = some (.slice A1 (rd_T24 xs i).f1.length c1) ∧ w.cell? ⟨(ad.add (i.toNat * 4)).block, (ad.add (i.toNat * 4)).off + 2, none⟩ = some (.string (rd_T24 xs i).f2) ∧ w.cell? ⟨(ad.add (i.toNat * 4)).block, (ad.add (i.toNat * 4)).off + 3, none⟩ = some (.string (rd_T24 xs i).f3) ∧ (rd_T24 xs i).f1.length ≤ c1 ∧ Kd.string.C w A1 (rd_T24 xs i).f1.length (rd_T24 xs i).f1 := by
 obtain ⟨ad, c, e, _, hK, hc0⟩ := Kd.C_get h z24 i h0 h1
 have hc : ∀ j u, c[j]? = some u → w.cell? (ad.add (i.toNat * 4 + j)) = some u := hc0
 obtain ⟨A1, c1, rfl, l1, g1⟩ := k24_open hK
 exact ⟨ad, A1, c1, e, hc 0 _ rfl, by rw [← add_field _ _ 1 (by omega)]; exact hc 1 _ rfl, by rw [← add_field _ _ 2 (by omega)]; exact hc 2 _ rfl, by rw [← add_field _ _ 3 (by omega)]; exact hc 3 _ rfl, l1, g1⟩
structure S62 where
  f0 : Int
  f1 : (List Int)
def z62 : S62 := ⟨(0 : Int), ([] : List Int)⟩
def k62 : Kd S62 := Kd.iso (Kd.pair (Kd.int .i64) (Kd.slice 3 (Kd.int .i64))) (fun x : S62 => (x.f0, x.f1))
theorem k62_open {w : World} {x : S62} {cs : List Value} (h : k62.K w x cs) : ∃ A1 c1, cs = [.int .i64 x.f0, .slice A1 x.f1.length c1] ∧ x.f1.length ≤ c1 ∧ (Kd.int .i64).C w A1 x.f1.length x.f1 := by
 obtain ⟨_, _, rfl, rfl, ⟨A1, c1, rfl, l1, g1⟩⟩ := h
 exact ⟨A1, c1, rfl, l1, g1⟩
theorem k62_mkM (w : World) (base : Nat) (ok : Nat → Prop) (x : S62) {v1 : Value} (g1 : (Kd.int .i64).R 3 w base ok v1 x.f1) : k62.M w base ok x [.int .i64 x.f0, v1] := ⟨[.int .i64 x.f0], [v1], rfl, rfl, ⟨v1, rfl, g1⟩⟩
def rd_T62 (xs : List S62) (i : Int) : S62 := xs.getD i.toNat z62
theorem at_T62 {w : World} {A : Option Addr} {n : Nat} {xs : List S62} (h : Kd.C k62 w A n xs) (i : Int) (h0 : 0 ≤ i) (h1 : i < n) : ∃ ad A1 c1, A = some ad ∧ w.cell? (ad.add (i.toNat * 2)) = some (.int .i64 (rd_T62 xs i).f0) ∧ w.cell? ⟨(ad.add (i.toNat * 2)).block, (ad.add (i.toNat * 2)).off + 1, none⟩ = some (.slice A1 (rd_T62 xs i).f1.length c1) ∧ (rd_T62 xs i).f1.length ≤ c1 ∧ (Kd.int .i64).C w A1 (rd_T62 xs i).f1.length (rd_T62 xs i).f1 := by
 obtain ⟨ad, c, e, _, hK, hc0⟩ := Kd.C_get h z62 i h0 h1
 have hc : ∀ j u, c[j]? = some u → w.cell? (ad.add (i.toNat * 2 + j)) = some u := hc0
 obtain ⟨A1, c1, rfl, l1, g1⟩ := k62_open hK
 exact ⟨ad, A1, c1, e, hc 0 _ rfl, by rw [← add_field _ _ 1 (by omega)]; exact hc 1 _ rfl, l1, g1⟩
set_option maxHeartbeats 8000000 in
set_option maxRecDepth 100000 in
theorem shelf_New.calls (w : World) :
    Calls Tryd.prog 15 #[] w fun e w' => ∃ g B D, e = .returned (.pointer (some ⟨g, 0, none⟩)) ∧ M.shelf Tryd.prog w.heap.size w' g B D (.slice none 0 0) (.slice none 0 0) [] ByteArray.empty ByteArray.empty ∧ Below w.heap.size w w' := by
 have hmm := @run_makeMap Tryd.prog
 go_enter Tryd.func15, Tryd.ntmps15
 go_wp2
 go_ret
 have hz : (w.alloc (.map #[] 0)).heap.size = w.heap.size + 1 := by simp
 have hb := heap_alloc_new (w.alloc (.map #[] 0)) (.cells #[.map (some w.heap.size), .slice none 0 0, .slice none 0 0, .string ByteArray.empty, .string ByteArray.empty] 81)
 rw [hz] at hb
 refine ⟨w.heap.size + 1, w.heap.size, .map [], rfl, ⟨hb, (World.ownsMap_made w _ _ _).alloc _, M.told_nil, ⟨rfl, .inl ⟨rfl, rfl⟩⟩, ⟨rfl, .inl ⟨rfl, rfl⟩⟩, ?_, Nat.le_refl _, ?_, ?_, ?_, ?_, ?_, .inl rfl, List.nodup_nil⟩, below_alloc (below_alloc (Below.refl _ _) _) _⟩
 ·omega
 ·omega
 ·simp [Value.ownBlock]
 ·simp [Value.ownBlock]
 ·simp [Value.ownBlock]
 ·simp [Value.ownBlock]
theorem shelf_New.any (w : World) :
    Calls Tryd.prog 15 #[] w fun e w' => ∃ g F, e = .returned (.pointer (some ⟨g, 0, none⟩)) ∧ M.Sh Tryd.prog w.heap.size w' g F M.SS.none_ ∧ Below w.heap.size w w' := by
 refine (shelf_New.calls w).mono ?_
 rintro e w' ⟨g, B, D, rfl, hs, hb⟩
 exact ⟨g, M.feet g B (.slice none 0 0) (.slice none 0 0), rfl, ⟨B, D, _, _, hs, fun _ hk => hk, fun k hk => ⟨M.feet_ge hs k hk, M.feet_lt hs k hk⟩⟩, hb⟩
mutual
def commit_Check_p.j0 : Nat → Bool → Int → List ByteArray → ByteArray → ByteArray → Option (Int)
  | 0, _, _, _, _, _ => none
  | k + 1, x5, zaa, zab, zac, zad => if x5 = true then (some 2) else (if (zac.size : Int) = 32 then (if (zad.size : Int) > 40 then (some 2) else (commit_Check_p.l0 k zab (zab.length : Int) 0 zaa zab zac zad)) else (some 2))
def commit_Check_p.l0 : Nat → List ByteArray → Int → Int → Int → List ByteArray → ByteArray → ByteArray → Option (Int)
  | 0, _, _, _, _, _, _, _ => none
  | k + 1, x32, x33, x34, zaa, zab, zac, zad => if x34 < x33 then (if 0 ≤ x34 then (if x34 < (x32.length : Int) then (if ((rdOf ByteArray.empty x32 x34).size : Int) = 32 then (if x34 > 0 then (if 0 < (zab.length : Int) then (commit_Check_p.j2 k x32 x33 x34 ((rdOf ByteArray.empty x32 x34).toList == (rdOf ByteArray.empty zab 0).toList) zaa zab zac zad) else (none)) else (commit_Check_p.j2 k x32 x33 x34 false zaa zab zac zad)) else (commit_Check_p.j2 k x32 x33 x34 true zaa zab zac zad)) else (none)) else (none)) else (some 0)
def commit_Check_p.j2 : Nat → List ByteArray → Int → Int → Bool → Int → List ByteArray → ByteArray → ByteArray → Option (Int)
  | 0, _, _, _, _, _, _, _, _ => none
  | k + 1, x32, x33, x34, x53, zaa, zab, zac, zad => if x53 = true then (some 2) else (commit_Check_p.l0 k x32 x33 (wrap64 (x34 + 1)) zaa zab zac zad)
end
def commit_Check_p.f (k : Nat) (a0_0 : Int) (l0_1 : List ByteArray) (a0_2 : ByteArray) (a0_3 : ByteArray) : Option (Int) := if a0_0 < 1 then (commit_Check_p.j0 k true a0_0 l0_1 a0_2 a0_3) else (if a0_0 > 4294967295 then (commit_Check_p.j0 k true a0_0 l0_1 a0_2 a0_3) else (commit_Check_p.j0 k (decide ((l0_1.length : Int) > 2)) a0_0 l0_1 a0_2 a0_3))
theorem commit_Check_p.mono_l : ∀ k, (∀ y0 y1 y2 y3 y4, LeO (commit_Check_p.j0 k y0 y1 y2 y3 y4) (commit_Check_p.j0 (k + 1) y0 y1 y2 y3 y4)) ∧ (∀ y0 y1 y2 y3 y4 y5 y6, LeO (commit_Check_p.l0 k y0 y1 y2 y3 y4 y5 y6) (commit_Check_p.l0 (k + 1) y0 y1 y2 y3 y4 y5 y6)) ∧ (∀ y0 y1 y2 y3 y4 y5 y6 y7, LeO (commit_Check_p.j2 k y0 y1 y2 y3 y4 y5 y6 y7) (commit_Check_p.j2 (k + 1) y0 y1 y2 y3 y4 y5 y6 y7))
  | 0 => ⟨fun _ _ _ _ _ r h => by simp [commit_Check_p.j0] at h, fun _ _ _ _ _ _ _ r h => by simp [commit_Check_p.l0] at h, fun _ _ _ _ _ _ _ _ r h => by simp [commit_Check_p.j2] at h⟩
  | k + 1 => by
    obtain ⟨ih0, ih1, ih2⟩ := commit_Check_p.mono_l k
    refine ⟨?_, ?_, ?_⟩
    · intro y0 y1 y2 y3 y4
      unfold commit_Check_p.j0
      repeat' first
      | (with_reducible exact ih0 _ _ _ _ _)
      | (with_reducible exact ih1 _ _ _ _ _ _ _)
      | (with_reducible exact ih2 _ _ _ _ _ _ _ _)
      | (with_reducible exact LeO.refl _)
      | (with_reducible exact LeO.none _)
      | (with_reducible refine LeO.ite ?_ ?_)
      | (with_reducible refine LeO.bind ?_ (fun _ => ?_))
      | exact ih0 _ _ _ _ _
      | exact ih1 _ _ _ _ _ _ _
      | exact ih2 _ _ _ _ _ _ _ _
      | exact LeO.none _
      | refine LeO.ite ?_ ?_
      | refine LeO.bind ?_ (fun _ => ?_)
    · intro y0 y1 y2 y3 y4 y5 y6
      unfold commit_Check_p.l0
      repeat' first
      | (with_reducible exact ih0 _ _ _ _ _)
      | (with_reducible exact ih1 _ _ _ _ _ _ _)
      | (with_reducible exact ih2 _ _ _ _ _ _ _ _)
      | (with_reducible exact LeO.refl _)
      | (with_reducible exact LeO.none _)
      | (with_reducible refine LeO.ite ?_ ?_)
      | (with_reducible refine LeO.bind ?_ (fun _ => ?_))
      | exact ih0 _ _ _ _ _
      | exact ih1 _ _ _ _ _ _ _
      | exact ih2 _ _ _ _ _ _ _ _
      | exact LeO.none _
      | refine LeO.ite ?_ ?_
      | refine LeO.bind ?_ (fun _ => ?_)
    · intro y0 y1 y2 y3 y4 y5 y6 y7
      unfold commit_Check_p.j2
      repeat' first
      | (with_reducible exact ih0 _ _ _ _ _)
      | (with_reducible exact ih1 _ _ _ _ _ _ _)
      | (with_reducible exact ih2 _ _ _ _ _ _ _ _)
      | (with_reducible exact LeO.refl _)
      | (with_reducible exact LeO.none _)
      | (with_reducible refine LeO.ite ?_ ?_)
      | (with_reducible refine LeO.bind ?_ (fun _ => ?_))
      | exact ih0 _ _ _ _ _
      | exact ih1 _ _ _ _ _ _ _
      | exact ih2 _ _ _ _ _ _ _ _
      | exact LeO.none _
      | refine LeO.ite ?_ ?_
      | refine LeO.bind ?_ (fun _ => ?_)
theorem commit_Check_p.mono : ∀ a0 a1 a2 a3 k, LeO (commit_Check_p.f k a0 a1 a2 a3) (commit_Check_p.f (k + 1) a0 a1 a2 a3) := by
  intro a0 a1 a2 a3 k
  obtain ⟨ih0, ih1, ih2⟩ := commit_Check_p.mono_l k
  unfold commit_Check_p.f
  repeat' first
      | (with_reducible exact ih0 _ _ _ _ _)
      | (with_reducible exact ih1 _ _ _ _ _ _ _)
      | (with_reducible exact ih2 _ _ _ _ _ _ _ _)
      | (with_reducible exact LeO.refl _)
      | (with_reducible exact LeO.none _)
      | (with_reducible refine LeO.ite ?_ ?_)
      | (with_reducible refine LeO.bind ?_ (fun _ => ?_))
      | exact ih0 _ _ _ _ _
      | exact ih1 _ _ _ _ _ _ _
      | exact ih2 _ _ _ _ _ _ _ _
      | exact LeO.none _
      | refine LeO.ite ?_ ?_
      | refine LeO.bind ?_ (fun _ => ?_)
set_option maxHeartbeats 8000000 in
set_option maxRecDepth 100000 in
theorem commit_Check_p.calls (k : Nat) (a0_0 : Int) (A0_1 : Option Addr) (c0_1 : Nat) (l0_1 : List ByteArray) (a0_2 : ByteArray) (a0_3 : ByteArray) (r : Int) (w : World) (hr0_1 : Kd.C Kd.string w A0_1 l0_1.length l0_1) (hc0_1 : l0_1.length ≤ c0_1) (h : commit_Check_p.f k a0_0 l0_1 a0_2 a0_3 = some r) :
    Calls Tryd.prog 18 #[.agg #[.int .i64 a0_0, .slice A0_1 l0_1.length c0_1, .string a0_2, .string a0_3]] w fun e w' => e = .returned (.int .i64 r) ∧ Below w.heap.size w w' := by
 have hu24 := Tryd.underlying24
 have HR0_1 := Aside0.mk hr0_1
 have HC0_1 := Aside0.mk hc0_1
 clear hr0_1 hc0_1
 have HB := Aside0.mk (Below.refl w.heap.size w)
 have H : (if a0_0 < 1 then (commit_Check_p.j0 k true a0_0 l0_1 a0_2 a0_3) else (if a0_0 > 4294967295 then (commit_Check_p.j0 k true a0_0 l0_1 a0_2 a0_3) else (commit_Check_p.j0 k (decide ((l0_1.length : Int) > 2)) a0_0 l0_1 a0_2 a0_3))) = some r := h
 clear h
 have HC2 := Aside0.mk H
 clear H
 go_enter Tryd.func18, Tryd.ntmps18
 go_upto_region 1 with (first | ((with_reducible refine gate_dst (N := 1) rfl ?_); (try (refine gate_guard (by rfl) ?_; dsimp only)); refine M.bx 1 24 (#[.int .i64 a0_0, .slice A0_1 l0_1.length c0_1, .string a0_2, .string a0_3]) ?_; intro zae hg w3 hbox hb; have zaf := Aside0.mk (hbox); have zag := M.upG HB hg; have zah := M.upG HB hg; replace HB := M.upS HB hb; clear hb hbox hg))
 (try simp only [Act.put, List.setIfInBounds_toArray, List.set_cons_zero, List.set_cons_succ])
 go_cut [5] (fun v5 wc => ∃ (kq : Nat) (x5_1 : Bool), v5 = .bool x5_1 ∧ Aside0 (commit_Check_p.j0 kq x5_1 a0_0 l0_1 a0_2 a0_3 = some r) ∧ Aside0 (kq ≤ k) ∧ Aside0 (wc.heap[zae]? = some (.cells #[.int .i64 a0_0, (.slice A0_1 l0_1.length c0_1), .string a0_2, .string a0_3] 24 (0, 0))) ∧ Aside0 (Below w.heap.size w wc))
 case first =>
  have H := HC2.out
  clear HC2
  by_cases c4 : a0_0 < 1
  ·rw [if_pos c4] at H
   have c4b0 := decide_eq_true c4
   clear c4
   (first | rw [c4b0] | (simp only [i64_w, i32_w]; rw [c4b0]) | skip)
   have H' := Aside0.mk H
   clear H
   have zai : w3.cell? ⟨zae, 0, none⟩ = some (.int .i64 a0_0) := (blk_cell zaf.out 0).trans rfl
   have zaj : w3.cell? ⟨zae, 1, none⟩ = some (.slice A0_1 l0_1.length c0_1) := (blk_cell zaf.out 1).trans rfl
   have zak : w3.cell? ⟨zae, 2, none⟩ = some (.string a0_2) := (blk_cell zaf.out 2).trans rfl
   have zal : w3.cell? ⟨zae, 3, none⟩ = some (.string a0_3) := (blk_cell zaf.out 3).trans rfl
   have zam := blk_frozen zaf.out 0
   have zan := blk_frozen zaf.out 1
   have zao := blk_frozen zaf.out 2
   have zap := blk_frozen zaf.out 3
   go_wp2
   go_meet
   case rel => exact ⟨_, (true), M.eqv, H', ⟨by first | omega | exact Nat.le_refl _⟩, ⟨M.bk zaf⟩, ⟨M.up HB⟩⟩
  ·rw [if_neg c4] at H
   have c4b0 := decide_eq_false c4
   clear c4
   (first | rw [c4b0] | (simp only [i64_w, i32_w]; rw [c4b0]) | skip)
   by_cases c6 : a0_0 > 4294967295
   ·rw [if_pos c6] at H
    have c6b0 := decide_eq_true c6
    clear c6
    have H' := Aside0.mk H
    clear H
    have zaq : w3.cell? ⟨zae, 0, none⟩ = some (.int .i64 a0_0) := (blk_cell zaf.out 0).trans rfl
    have zar : w3.cell? ⟨zae, 1, none⟩ = some (.slice A0_1 l0_1.length c0_1) := (blk_cell zaf.out 1).trans rfl
    have zas : w3.cell? ⟨zae, 2, none⟩ = some (.string a0_2) := (blk_cell zaf.out 2).trans rfl
    have zat : w3.cell? ⟨zae, 3, none⟩ = some (.string a0_3) := (blk_cell zaf.out 3).trans rfl
    have zau := blk_frozen zaf.out 0
    have zav := blk_frozen zaf.out 1
    have zaw := blk_frozen zaf.out 2
    have zax := blk_frozen zaf.out 3
    go_wp2
    go_meet
    case rel => exact ⟨_, (true), M.eqv, H', ⟨by first | omega | exact Nat.le_refl _⟩, ⟨M.bk zaf⟩, ⟨M.up HB⟩⟩
   ·rw [if_neg c6] at H
    have c6b0 := decide_eq_false c6
    clear c6
    have H' := Aside0.mk H
    clear H
    have zay : w3.cell? ⟨zae, 0, none⟩ = some (.int .i64 a0_0) := (blk_cell zaf.out 0).trans rfl
    have zaz : w3.cell? ⟨zae, 1, none⟩ = some (.slice A0_1 l0_1.length c0_1) := (blk_cell zaf.out 1).trans rfl
    have zaA : w3.cell? ⟨zae, 2, none⟩ = some (.string a0_2) := (blk_cell zaf.out 2).trans rfl
    have zaB : w3.cell? ⟨zae, 3, none⟩ = some (.string a0_3) := (blk_cell zaf.out 3).trans rfl
    have zaC := blk_frozen zaf.out 0
    have zaD := blk_frozen zaf.out 1
    have zaE := blk_frozen zaf.out 2
    have zaF := blk_frozen zaf.out 3
    go_wp2
    go_meet
    case rel => exact ⟨_, (decide ((l0_1.length : Int) > 2)), M.eqv, H', ⟨by first | omega | exact Nat.le_refl _⟩, ⟨M.bk zaf⟩, ⟨M.up HB⟩⟩
 case rest =>
  clear HC2
  (try clear c1); (try clear p2); (try clear c4); (try clear c4b0); (try clear c6); (try clear c6b0); (try clear zai); (try clear zaj); (try clear zak); (try clear zal); (try clear zaq); (try clear zar); (try clear zas); (try clear zat); (try clear zay); (try clear zaz); (try clear zaA); (try clear zaB); (try clear zam); (try clear zan); (try clear zao); (try clear zap); (try clear zau); (try clear zav); (try clear zaw); (try clear zax); (try clear zaC); (try clear zaD); (try clear zaE); (try clear zaF)
  obtain ⟨kq, x5_1, rfl, HA, HJ1, zaf, HB⟩ := hcut
  cases kq with
  | zero => exact absurd HA.out (by simp [commit_Check_p.j0])
  | succ kj1 =>
   have H := HA.out
   clear HA
   simp only [commit_Check_p.j0] at H
   by_cases c9 : x5_1 = true
   ·subst c9
    have H1 : (some 2) = some r := by rw [if_pos rfl] at H; exact H
    clear H
    have H := H1
    clear H1
    obtain rfl := Option.some.inj H
    go_wp2
    go_ret
    exact M.fin (M.up HB)
   ·replace c9 := Bool.eq_false_iff.mpr c9
    subst c9
    have H1 : (if (a0_2.size : Int) = 32 then (if (a0_3.size : Int) > 40 then (some 2) else (commit_Check_p.l0 kj1 l0_1 (l0_1.length : Int) 0 a0_0 l0_1 a0_2 a0_3)) else (some 2)) = some r := by rw [if_neg (show ¬ (false = true) by decide)] at H; exact H
    clear H
    have H := H1
    clear H1
    by_cases c10 : (a0_2.size : Int) = 32
    ·rw [if_pos c10] at H
     have c10b0 : ((a0_2.size : Int) == 32) = true := beq_iff_eq.mpr c10
     have c10b1 : ((a0_2.size : Int) != 32) = false := bne_eq_false_iff_eq.mpr c10
     clear c10
     by_cases c11 : (a0_3.size : Int) > 40
     ·rw [if_pos c11] at H
      have c11b0 := decide_eq_true c11
      have c11b1 : decide (40 < a0_3.size) = true := decide_eq_true (by omega)
      clear c11
      obtain rfl := Option.some.inj H
      have zaG : wc.cell? ⟨zae, 0, none⟩ = some (.int .i64 a0_0) := (blk_cell zaf.out 0).trans rfl
      have zaH : wc.cell? ⟨zae, 1, none⟩ = some (.slice A0_1 l0_1.length c0_1) := (blk_cell zaf.out 1).trans rfl
      have zaI : wc.cell? ⟨zae, 2, none⟩ = some (.string a0_2) := (blk_cell zaf.out 2).trans rfl
      have zaJ : wc.cell? ⟨zae, 3, none⟩ = some (.string a0_3) := (blk_cell zaf.out 3).trans rfl
      have zaK := blk_frozen zaf.out 0
      have zaL := blk_frozen zaf.out 1
      have zaM := blk_frozen zaf.out 2
      have zaN := blk_frozen zaf.out 3
      go_wp2
      go_ret
      exact M.fin (M.up HB)
     ·rw [if_neg c11] at H
      have c11b0 := decide_eq_false c11
      have c11b1 : decide (40 < a0_3.size) = false := decide_eq_false (by omega)
      clear c11
      have H' := Aside0.mk H
      clear H
      have zaO : wc.cell? ⟨zae, 0, none⟩ = some (.int .i64 a0_0) := (blk_cell zaf.out 0).trans rfl
      have zaP : wc.cell? ⟨zae, 1, none⟩ = some (.slice A0_1 l0_1.length c0_1) := (blk_cell zaf.out 1).trans rfl
      have zaQ : wc.cell? ⟨zae, 2, none⟩ = some (.string a0_2) := (blk_cell zaf.out 2).trans rfl
      have zaR : wc.cell? ⟨zae, 3, none⟩ = some (.string a0_3) := (blk_cell zaf.out 3).trans rfl
      have zaS := blk_frozen zaf.out 0
      have zaT := blk_frozen zaf.out 1
      have zaU := blk_frozen zaf.out 2
      have zaV := blk_frozen zaf.out 3
      go_wp2
      go_loopg [34] kj1 (fun kq v34 w' => ∃ (x34_2 : Int), v34 = .int .i64 x34_2 ∧ Aside0 (commit_Check_p.l0 kq l0_1 (l0_1.length : Int) x34_2 a0_0 l0_1 a0_2 a0_3 = some r) ∧ Aside0 (kq ≤ kj1) ∧ Aside0 (w'.heap[zae]? = some (.cells #[.int .i64 a0_0, (.slice A0_1 l0_1.length c0_1), .string a0_2, .string a0_3] 24 (0, 0))) ∧ Aside0 (Below w.heap.size w w'))
      case atStart => exact ⟨(0), M.eqv, H', ⟨Nat.le_refl _⟩, ⟨M.bk zaf⟩, ⟨M.up HB⟩⟩
      case round =>
       clear H'
       (try clear c1); (try clear p2); (try clear c4); (try clear c4b0); (try clear c6); (try clear c6b0); (try clear c9); (try clear c10); (try clear c10b0); (try clear c10b1); (try clear c11); (try clear c11b0); (try clear c11b1); (try clear zaG); (try clear zaH); (try clear zaI); (try clear zaJ); (try clear zaO); (try clear zaP); (try clear zaQ); (try clear zaR); (try clear zai); (try clear zaj); (try clear zak); (try clear zal); (try clear zaq); (try clear zar); (try clear zas); (try clear zat); (try clear zay); (try clear zaz); (try clear zaA); (try clear zaB); (try clear zaK); (try clear zaL); (try clear zaM); (try clear zaN); (try clear zaS); (try clear zaT); (try clear zaU); (try clear zaV); (try clear zam); (try clear zan); (try clear zao); (try clear zap); (try clear zau); (try clear zav); (try clear zaw); (try clear zax); (try clear zaC); (try clear zaD); (try clear zaE); (try clear zaF); (try clear p2)
       obtain ⟨x34_2, rfl, HA, HK2, zaf, HB⟩ := hrel
       cases gk with
       | zero => exact absurd HA.out (by simp [commit_Check_p.l0])
       | succ k2 =>
        have H := HA.out
        clear HA
        simp only [commit_Check_p.l0] at H
        by_cases c14 : x34_2 < (l0_1.length : Int)
        ·rw [if_pos c14] at H
         have c14b0 := decide_eq_true c14
         clear c14
         by_cases c15 : 0 ≤ x34_2
         ·rw [if_pos c15] at H
          have c15b0 := decide_eq_true c15
          clear c15
          by_cases c16 : x34_2 < (l0_1.length : Int)
          ·rw [if_pos c16] at H
           have c16b0 := decide_eq_true c16
           clear c16
           have HC17 := Aside0.mk H
           clear H
           have p102 : 0 ≤ (x34_2 : Int) := M.dt
           have q102 : x34_2 < (l0_1.length : Int) := M.dt
           obtain ⟨ad102, e102, hx102_0⟩ := Kd.at_string HR0_1.out x34_2 p102 q102
           cases e102
           replace hx102_0 := M.hc HB hx102_0
           replace p102 := eq_true p102
           replace q102 := eq_true q102
           go_upto_region 8 with (fail)
           go_cut [53] (fun v53 wc => ∃ (kq : Nat) (x53_16 : Bool), v53 = .bool x53_16 ∧ Aside0 (commit_Check_p.j2 kq l0_1 (l0_1.length : Int) x34_2 x53_16 a0_0 l0_1 a0_2 a0_3 = some r) ∧ Aside0 (kq ≤ k2) ∧ Aside0 (wc.heap[zae]? = some (.cells #[.int .i64 a0_0, (.slice (some ad102) l0_1.length c0_1), .string a0_2, .string a0_3] 24 (0, 0))) ∧ Aside0 (Below w.heap.size w wc))
           case first =>
            have H := HC17.out
            clear HC17
            by_cases c18 : ((rdOf ByteArray.empty l0_1 x34_2).size : Int) = 32
            ·rw [if_pos c18] at H
             have c18b0 : (((rdOf ByteArray.empty l0_1 x34_2).size : Int) == 32) = true := beq_iff_eq.mpr c18
             have c18b1 : (((rdOf ByteArray.empty l0_1 x34_2).size : Int) != 32) = false := bne_eq_false_iff_eq.mpr c18
             clear c18
             (first | rw [c18b0] | (simp only [i64_w, i32_w]; rw [c18b0]) | skip)
             by_cases c19 : x34_2 > 0
             ·rw [if_pos c19] at H
              have c19b0 := decide_eq_true c19
              clear c19
              by_cases c20 : 0 < (l0_1.length : Int)
              ·rw [if_pos c20] at H
               have c20b0 := decide_eq_true c20
               have c20b1 : decide (0 < l0_1.length) = true := decide_eq_true (by omega)
               clear c20
               have H' := Aside0.mk H
               clear H
               have zaW : wr.cell? ⟨zae, 0, none⟩ = some (.int .i64 a0_0) := (blk_cell zaf.out 0).trans rfl
               have zaX : wr.cell? ⟨zae, 1, none⟩ = some (.slice (some ad102) l0_1.length c0_1) := (blk_cell zaf.out 1).trans rfl
               have zaY : wr.cell? ⟨zae, 2, none⟩ = some (.string a0_2) := (blk_cell zaf.out 2).trans rfl
               have zaZ : wr.cell? ⟨zae, 3, none⟩ = some (.string a0_3) := (blk_cell zaf.out 3).trans rfl
               have za0 := blk_frozen zaf.out 0
               have za1 := blk_frozen zaf.out 1
               have za2 := blk_frozen zaf.out 2
               have za3 := blk_frozen zaf.out 3
               have p103 : 0 ≤ (0 : Int) := (by omega)
               have q103 : 0 < (l0_1.length : Int) := M.dt
               obtain ⟨ad103, e103, hx103_0⟩ := Kd.at_string HR0_1.out 0 p103 q103
               obtain rfl : ad102 = ad103 := (by injection e103)
               have qi103 : (0 < l0_1.length) = True := eq_true (by omega)
               (try rw [show ((0 : Int)).toNat = 0 from rfl] at hx103_0)
               (try rw [Addr.add_zero'] at hx103_0)
               replace hx103_0 := M.hc HB hx103_0
               replace p103 := eq_true p103
               replace q103 := eq_true q103
               go_wp2
               go_meet
               case rel => exact ⟨_, (((rdOf ByteArray.empty l0_1 x34_2).toList == (rdOf ByteArray.empty l0_1 0).toList)), M.eqv, H', ⟨by have := HJ1.out; have := HK2.out; first | omega | exact Nat.le_refl _⟩, ⟨M.bk zaf⟩, ⟨M.up HB⟩⟩
              ·exact M.nf c20 H
             ·rw [if_neg c19] at H
              have c19b0 := decide_eq_false c19
              clear c19
              have H' := Aside0.mk H
              clear H
              go_wp2
              go_meet
              case rel => exact ⟨_, (false), M.eqv, H', ⟨by have := HJ1.out; have := HK2.out; first | omega | exact Nat.le_refl _⟩, ⟨M.bk zaf⟩, ⟨M.up HB⟩⟩
            ·rw [if_neg c18] at H
             have c18b0 : (((rdOf ByteArray.empty l0_1 x34_2).size : Int) == 32) = false := beq_eq_false_iff_ne.mpr c18
             have c18b1 : (((rdOf ByteArray.empty l0_1 x34_2).size : Int) != 32) = true := bne_iff_ne.mpr c18
             (first | rw [c18b0] | (simp only [i64_w, i32_w]; rw [c18b0]) | skip)
             have H' := Aside0.mk H
             clear H
             go_wp2
             go_meet
             case rel => exact ⟨_, (true), M.eqv, H', ⟨by have := HJ1.out; have := HK2.out; first | omega | exact Nat.le_refl _⟩, ⟨M.bk zaf⟩, ⟨M.up HB⟩⟩
           case rest =>
            clear HC17
            (try clear c1); (try clear p1); (try clear q1); (try clear hx1); (try clear qi1); (try clear c2); (try clear p2); (try clear c4); (try clear c4b0); (try clear c6); (try clear c6b0); (try clear c9); (try clear c10); (try clear c10b0); (try clear c10b1); (try clear p10); (try clear q10); (try clear hx10); (try clear qi10); (try clear c11); (try clear c11b0); (try clear c11b1); (try clear c14); (try clear c14b0); (try clear c15); (try clear c15b0); (try clear c16); (try clear c16b0); (try clear c18); (try clear c18b0); (try clear c18b1); (try clear c19); (try clear c19b0); (try clear c20); (try clear c20b0); (try clear c20b1); (try clear zaG); (try clear zaH); (try clear zaI); (try clear zaJ); (try clear zaO); (try clear zaP); (try clear zaQ); (try clear zaR); (try clear zaW); (try clear zaX); (try clear zaY); (try clear zaZ); (try clear zai); (try clear zaj); (try clear zak); (try clear zal); (try clear zaq); (try clear zar); (try clear zas); (try clear zat); (try clear zay); (try clear zaz); (try clear zaA); (try clear zaB); (try clear zaK); (try clear zaL); (try clear zaM); (try clear zaN); (try clear zaS); (try clear zaT); (try clear zaU); (try clear zaV); (try clear za0); (try clear za1); (try clear za2); (try clear za3); (try clear zam); (try clear zan); (try clear zao); (try clear zap); (try clear zau); (try clear zav); (try clear zaw); (try clear zax); (try clear zaC); (try clear zaD); (try clear zaE); (try clear zaF); (try clear hx102_0); (try clear hx103_0); (try clear p102); (try clear p103); (try clear p2); (try clear q102); (try clear q103)
            obtain ⟨kq, x53_16, rfl, HA, HJ16, zaf, HB⟩ := hcut
            cases kq with
            | zero => exact absurd HA.out (by simp [commit_Check_p.j2])
            | succ kj16 =>
             have H := HA.out
             clear HA
             simp only [commit_Check_p.j2] at H
             by_cases c22 : x53_16 = true
             ·subst c22
              have H1 : (some 2) = some r := by rw [if_pos rfl] at H; exact H
              clear H
              have H := H1
              clear H1
              obtain rfl := Option.some.inj H
              go_wp2
              go_ret
              exact M.fin (M.up HB)
             ·replace c22 := Bool.eq_false_iff.mpr c22
              subst c22
              have H1 : (commit_Check_p.l0 kj16 l0_1 (l0_1.length : Int) (wrap64 (x34_2 + 1)) a0_0 l0_1 a0_2 a0_3) = some r := by rw [if_neg (show ¬ (false = true) by decide)] at H; exact H
              clear H
              have H := H1
              clear H1
              have H' := Aside0.mk H
              clear H
              go_wp2
              go_roundg kj16
              case measure => have := HJ1.out; have := HK2.out; have := HJ16.out; omega
              case rel => exact ⟨(wrap64 (x34_2 + 1)), M.eqv, H', ⟨by have := HJ1.out; have := HK2.out; have := HJ16.out; omega⟩, ⟨M.bk zaf⟩, ⟨M.up HB⟩⟩
          ·exact M.nf c16 H
         ·exact M.nf c15 H
        ·rw [if_neg c14] at H
         have c14b0 := decide_eq_false c14
         clear c14
         obtain rfl := Option.some.inj H
         go_wp2
         go_ret
         exact M.fin (M.up HB)
    ·rw [if_neg c10] at H
     have c10b0 : ((a0_2.size : Int) == 32) = false := beq_eq_false_iff_ne.mpr c10
     have c10b1 : ((a0_2.size : Int) != 32) = true := bne_iff_ne.mpr c10
     obtain rfl := Option.some.inj H
     have za4 : wc.cell? ⟨zae, 0, none⟩ = some (.int .i64 a0_0) := (blk_cell zaf.out 0).trans rfl
     have za5 : wc.cell? ⟨zae, 1, none⟩ = some (.slice A0_1 l0_1.length c0_1) := (blk_cell zaf.out 1).trans rfl
     have za6 : wc.cell? ⟨zae, 2, none⟩ = some (.string a0_2) := (blk_cell zaf.out 2).trans rfl
     have za7 : wc.cell? ⟨zae, 3, none⟩ = some (.string a0_3) := (blk_cell zaf.out 3).trans rfl
     have za8 := blk_frozen zaf.out 0
     have za9 := blk_frozen zaf.out 1
     have zba := blk_frozen zaf.out 2
     have zbb := blk_frozen zaf.out 3
     go_wp2
     go_ret
     exact M.fin (M.up HB)
def commit_Check.f (a0_0 : Int) (l0_1 : List ByteArray) (a0_2 : ByteArray) (a0_3 : ByteArray) : Option Int := some (if M.isC a0_0 l0_1 a0_2 a0_3 then 0 else 2)
theorem commit_Check.ne {a b : ByteArray} : (a.toList == b.toList) = decide (a = b) := by
 by_cases h : a = b
 ·subst h; simp
 ·rw [decide_eq_false h]
  rw [beq_eq_false_iff_ne, M.toList_bs, M.toList_bs]
  exact fun e => h (M.bs_inj e)
theorem commit_Check.loop (n : Int) (ps : List ByteArray) (g note : ByteArray) (hl : ps.length ≤ 2) :
    commit_Check_p.l0 9 ps (ps.length : Int) 0 n ps g note = some (if (∀ p ∈ ps, p.size = 32) ∧ (ps.length = 2 → ps.getD 0 ByteArray.empty ≠ ps.getD 1 ByteArray.empty) then 0 else 2) := by
 match ps, hl with
 | [], _ => rw [commit_Check_p.l0, if_neg (by simp), if_pos ⟨by simp, by simp⟩]
 | [a], _ =>
  have r0 : rdOf ByteArray.empty [a] 0 = a := rfl
  rw [commit_Check_p.l0, if_pos (by simp), if_pos (by decide), if_pos (by simp), r0]
  by_cases ha : a.size = 32
  ·rw [if_pos (by omega), if_neg (by decide), commit_Check_p.j2, if_neg (by simp), show wrap64 (0 + 1) = 1 from M.wrap64_id (i := 1) (by decide) (by decide), commit_Check_p.l0, if_neg (by simp), if_pos ⟨by simp [ha], by simp⟩]
  ·rw [if_neg (by omega), commit_Check_p.j2, if_pos rfl, if_neg (fun z => ha (z.1 a List.mem_cons_self))]
 | [a, b], _ =>
  have r0 : rdOf ByteArray.empty [a, b] 0 = a := rfl
  have r1 : rdOf ByteArray.empty [a, b] 1 = b := rfl
  rw [commit_Check_p.l0, if_pos (by simp), if_pos (by decide), if_pos (by simp), r0]
  by_cases ha : a.size = 32
  ·rw [if_pos (by omega), if_neg (by decide), commit_Check_p.j2, if_neg (by simp), show wrap64 (0 + 1) = 1 from M.wrap64_id (i := 1) (by decide) (by decide), commit_Check_p.l0, if_pos (by simp), if_pos (by decide), if_pos (by simp), r1]
   by_cases hb : b.size = 32
   ·rw [if_pos (by omega), if_pos (by decide), if_pos (by simp), r0, commit_Check_p.j2, commit_Check.ne]
    by_cases hab : b = a
    ·rw [if_pos (decide_eq_true hab), if_neg (fun z => z.2 rfl hab.symm)]
    ·rw [if_neg (by simp [hab]), show wrap64 (1 + 1) = 2 from M.wrap64_id (i := 2) (by decide) (by decide), commit_Check_p.l0, if_neg (by simp), if_pos ⟨by simp [ha, hb], fun _ e => hab e.symm⟩]
   ·rw [if_neg (by omega), commit_Check_p.j2, if_pos rfl, if_neg (fun z => hb (z.1 b (by simp)))]
  ·rw [if_neg (by omega), commit_Check_p.j2, if_pos rfl, if_neg (fun z => ha (z.1 a List.mem_cons_self))]
theorem commit_Check.ev (n : Int) (ps : List ByteArray) (g note : ByteArray) (r : Int) (h : commit_Check.f n ps g note = some r) : ∃ k, commit_Check_p.f k n ps g note = some r := by
 unfold commit_Check.f at h
 obtain rfl := Option.some.inj h
 refine ⟨10, ?_⟩
 unfold commit_Check_p.f
 by_cases c1 : n < 1
 ·rw [if_pos c1, commit_Check_p.j0, if_pos rfl, if_neg (fun z => by have := z.1.1; omega)]
 rw [if_neg c1]
 by_cases c2 : n > 4294967295
 ·rw [if_pos c2, commit_Check_p.j0, if_pos rfl, if_neg (fun z => by have := z.1.2; omega)]
 rw [if_neg c2, commit_Check_p.j0]
 by_cases c3 : ps.length > 2
 ·rw [if_pos (decide_eq_true (by omega)), if_neg (fun z => by have := z.2.1; omega)]
 rw [if_neg (by simp; omega)]
 by_cases c4 : g.size = 32
 ·rw [if_pos (by omega)]
  by_cases c5 : note.size > 40
  ·rw [if_pos (by omega), if_neg (fun z => by have := z.2.2.2.1; omega)]
  ·rw [if_neg (by omega), commit_Check.loop n ps g note (by omega)]
   congr 1
   by_cases c6 : (∀ p ∈ ps, p.size = 32) ∧ (ps.length = 2 → ps.getD 0 ByteArray.empty ≠ ps.getD 1 ByteArray.empty)
   ·rw [if_pos c6, if_pos ⟨⟨by omega, by omega⟩, by omega, c4, by omega, c6⟩]
   ·rw [if_neg c6, if_neg (fun z => c6 z.2.2.2.2)]
 ·rw [if_neg (by omega), if_neg (fun z => c4 z.2.2.1)]
theorem commit_Check.calls (a0_0 : Int) (A0_1 : Option Addr) (c0_1 : Nat) (l0_1 : List ByteArray) (a0_2 : ByteArray) (a0_3 : ByteArray) (r : Int) (w : World) (hr0_1 : Kd.C Kd.string w A0_1 l0_1.length l0_1) (hc0_1 : l0_1.length ≤ c0_1) (h : commit_Check.f a0_0 l0_1 a0_2 a0_3 = some r) :
    Calls Tryd.prog 18 #[.agg #[.int .i64 a0_0, .slice A0_1 l0_1.length c0_1, .string a0_2, .string a0_3]] w fun e w' => e = .returned (.int .i64 r) ∧ Below w.heap.size w w' := by
 obtain ⟨k, hk⟩ := commit_Check.ev _ _ _ _ _ h
 exact commit_Check_p.calls (k := k) (w := w) (h := hk) (hr0_1 := hr0_1) (hc0_1 := hc0_1)
def IsS100 (w0 W : World) (g : Nat) (f0 : ByteArray) (f1 : Int) (f2 : Int) (f3 : Bool) : Prop := W.heap[g]? = some (.cells #[.string f0, .int .i64 f1, .int .i64 f2, .bool f3] 100 (0, 0)) ∧ w0.heap.size ≤ g
theorem IsS100.grown {w0 W : World} {g : Nat} {f0 : ByteArray} {f1 : Int} {f2 : Int} {f3 : Bool} {W1 : World} {row : Option Nat} (h : IsS100 w0 W g f0 f1 f2 f3) (hw : W.grownBy W1 row) (hne : some g ≠ row) : IsS100 w0 W1 g f0 f1 f2 f3 := by
 obtain ⟨hb, hg⟩ := h
 exact ⟨blk_grown hb hw hne, hg⟩
theorem IsS100.fresh {w0 W : World} {g : Nat} {f0 : ByteArray} {f1 : Int} {f2 : Int} {f3 : Bool} (h : IsS100 w0 W g f0 f1 f2 f3) : ∀ k, W.heap.size ≤ k → k ≠ g := by
 obtain ⟨hb, hg⟩ := h
 exact Kd.freshB hb
theorem IsS100.kept {w0 W : World} {g : Nat} {f0 : ByteArray} {f1 : Int} {f2 : Int} {f3 : Bool} {W1 : World} {S : Nat → Prop} (h : IsS100 w0 W g f0 f1 f2 f3) (hk : Kept W W1 S) (hne : ¬ S g) : IsS100 w0 W1 g f0 f1 f2 f3 := by
 obtain ⟨hb, hg⟩ := h
 exact ⟨blk_kept hb hk hne, hg⟩
theorem IsS100.below {w0 W : World} {g : Nat} {f0 : ByteArray} {f1 : Int} {f2 : Int} {f3 : Bool} {W1 : World} (h : IsS100 w0 W g f0 f1 f2 f3) (hw : Below W.heap.size W W1) : IsS100 w0 W1 g f0 f1 f2 f3 := h.grown (grown_of_below hw none) (by simp)
theorem IsS100.alloc {w0 W : World} {g : Nat} {f0 : ByteArray} {f1 : Int} {f2 : Int} {f3 : Bool} (h : IsS100 w0 W g f0 f1 f2 f3) (o : Obj) : IsS100 w0 (W.alloc o) g f0 f1 f2 f3 := h.below (below_alloc (Below.refl _ _) o)
theorem IsS100.drewN {w0 W : World} {g : Nat} {f0 : ByteArray} {f1 : Int} {f2 : Int} {f3 : Bool} (h : IsS100 w0 W g f0 f1 f2 f3) (m : Nat) : IsS100 w0 (W.drewN m) g f0 f1 f2 f3 := h
theorem IsS100.drew {w0 W : World} {g : Nat} {f0 : ByteArray} {f1 : Int} {f2 : Int} {f3 : Bool} (h : IsS100 w0 W g f0 f1 f2 f3) : IsS100 w0 W.drew g f0 f1 f2 f3 := h
theorem IsS100.at_ {w0 W : World} {g : Nat} {f0 : ByteArray} {f1 : Int} {f2 : Int} {f3 : Bool} {w' : World} {m : Nat} (hq : W.drewN m = w') (h : IsS100 w0 W g f0 f1 f2 f3) : IsS100 w0 w' g f0 f1 f2 f3 := by subst hq; exact IsS100.drewN h m
theorem IsS100.apart {w0 W : World} {g : Nat} {f0 : ByteArray} {f1 : Int} {f2 : Int} {f3 : Bool} {α : Type} {d : Kd α} {e : Nat} {base : Nat} {ok : Nat → Prop} {v : Value} {xs : List α} (h : IsS100 w0 W g f0 f1 f2 f3) (ho : d.R e W base ok v xs) (ht : ∀ q, q ∈ e :: d.E → q ≠ 100) : d.R e W base (fun k => ok k ∧ k ≠ g) v xs := by
 obtain ⟨hb, hg⟩ := h
 exact Kd.R_types ho hb ht
theorem IsS100.own_ne {w0 W : World} {g : Nat} {f0 : ByteArray} {f1 : Int} {f2 : Int} {f3 : Bool} {α : Type} {d : Kd α} {e : Nat} {base : Nat} {ok : Nat → Prop} {v : Value} {xs : List α} (h : IsS100 w0 W g f0 f1 f2 f3) (ho : d.R e W base ok v xs) (ht : e ≠ 100) : some g ≠ v.ownBlock := by
 obtain ⟨hb, hg⟩ := h
 exact Kd.R_ne ho hb ht
theorem IsS100.lt {w0 W : World} {g : Nat} {f0 : ByteArray} {f1 : Int} {f2 : Int} {f3 : Bool} (h : IsS100 w0 W g f0 f1 f2 f3) : g < W.heap.size := by
 obtain ⟨hb, hg⟩ := h
 exact blk_lt hb
theorem IsS100.ge {w0 W : World} {g : Nat} {f0 : ByteArray} {f1 : Int} {f2 : Int} {f3 : Bool} (h : IsS100 w0 W g f0 f1 f2 f3) : w0.heap.size ≤ g := by
 obtain ⟨hb, hg⟩ := h
 exact hg
theorem IsS100.ne_blk {w0 W : World} {g : Nat} {f0 : ByteArray} {f1 : Int} {f2 : Int} {f3 : Bool} {a : Nat} {cs : Array Value} {t : TypeId} {fr : Nat × Nat} (h : IsS100 w0 W g f0 f1 f2 f3) (hb2 : W.heap[a]? = some (.cells cs t fr)) (ht : t ≠ 100) : g ≠ a := by
 obtain ⟨hb, hg⟩ := h
 rintro rfl
 rw [hb] at hb2
 injection hb2 with hb2
 injection hb2 with _ ht2
 exact ht ht2.symm
theorem IsS100.far {w0 W : World} {g : Nat} {f0 : ByteArray} {f1 : Int} {f2 : Int} {f3 : Bool} {p : Addr} (h : IsS100 w0 W g f0 f1 f2 f3) (hne : g ≠ p.block) (u : Value) : IsS100 w0 (W.setCell p u) g f0 f1 f2 f3 := by
 obtain ⟨hb, hg⟩ := h
 exact ⟨blk_far hb hne u, hg⟩
theorem cellS100_0 {W : World} {g : Nat} {f0 : ByteArray} {f1 : Int} {f2 : Int} {f3 : Bool} (h : W.heap[g]? = some (.cells #[.string f0, .int .i64 f1, .int .i64 f2, .bool f3] 100 (0, 0))) : W.cell? ⟨g, 0, none⟩ = some (.string f0) := (blk_cell h 0).trans rfl
theorem IsS100.set_0 {w0 W : World} {g : Nat} {f0 : ByteArray} {f1 : Int} {f2 : Int} {f3 : Bool} (h : IsS100 w0 W g f0 f1 f2 f3) (x : ByteArray) : IsS100 w0 (W.setCell ⟨g, 0, none⟩ (.string x)) g x f1 f2 f3 := by
 obtain ⟨hb, hg⟩ := h
 exact ⟨by simpa using blk_set hb 0 (.string x), hg⟩
theorem cellS100_1 {W : World} {g : Nat} {f0 : ByteArray} {f1 : Int} {f2 : Int} {f3 : Bool} (h : W.heap[g]? = some (.cells #[.string f0, .int .i64 f1, .int .i64 f2, .bool f3] 100 (0, 0))) : W.cell? ⟨g, 1, none⟩ = some (.int .i64 f1) := (blk_cell h 1).trans rfl
theorem IsS100.set_1 {w0 W : World} {g : Nat} {f0 : ByteArray} {f1 : Int} {f2 : Int} {f3 : Bool} (h : IsS100 w0 W g f0 f1 f2 f3) (x : Int) : IsS100 w0 (W.setCell ⟨g, 1, none⟩ (.int .i64 x)) g f0 x f2 f3 := by
 obtain ⟨hb, hg⟩ := h
 exact ⟨by simpa using blk_set hb 1 (.int .i64 x), hg⟩
theorem cellS100_2 {W : World} {g : Nat} {f0 : ByteArray} {f1 : Int} {f2 : Int} {f3 : Bool} (h : W.heap[g]? = some (.cells #[.string f0, .int .i64 f1, .int .i64 f2, .bool f3] 100 (0, 0))) : W.cell? ⟨g, 2, none⟩ = some (.int .i64 f2) := (blk_cell h 2).trans rfl
theorem IsS100.set_2 {w0 W : World} {g : Nat} {f0 : ByteArray} {f1 : Int} {f2 : Int} {f3 : Bool} (h : IsS100 w0 W g f0 f1 f2 f3) (x : Int) : IsS100 w0 (W.setCell ⟨g, 2, none⟩ (.int .i64 x)) g f0 f1 x f3 := by
 obtain ⟨hb, hg⟩ := h
 exact ⟨by simpa using blk_set hb 2 (.int .i64 x), hg⟩
theorem cellS100_3 {W : World} {g : Nat} {f0 : ByteArray} {f1 : Int} {f2 : Int} {f3 : Bool} (h : W.heap[g]? = some (.cells #[.string f0, .int .i64 f1, .int .i64 f2, .bool f3] 100 (0, 0))) : W.cell? ⟨g, 3, none⟩ = some (.bool f3) := (blk_cell h 3).trans rfl
theorem IsS100.set_3 {w0 W : World} {g : Nat} {f0 : ByteArray} {f1 : Int} {f2 : Int} {f3 : Bool} (h : IsS100 w0 W g f0 f1 f2 f3) (x : Bool) : IsS100 w0 (W.setCell ⟨g, 3, none⟩ (.bool x)) g f0 f1 f2 x := by
 obtain ⟨hb, hg⟩ := h
 exact ⟨by simpa using blk_set hb 3 (.bool x), hg⟩
theorem IsS100.new (w0 W : World) (f0 : ByteArray) (f1 : Int) (f2 : Int) (f3 : Bool) (hB : Below w0.heap.size w0 W) : IsS100 w0 (W.alloc (.cells #[.string f0, .int .i64 f1, .int .i64 f2, .bool f3] 100)) W.heap.size f0 f1 f2 f3 := ⟨by simpa using heap_alloc_new W _, hB.size⟩
def scan_New.f (a0 : ByteArray) : Option (ByteArray × Int × Int × Bool) := some (a0, 0, 0, true)
set_option maxHeartbeats 8000000 in
set_option maxRecDepth 100000 in
theorem scan_New.calls (a0 : ByteArray) (r1 : ByteArray) (r2 : Int) (r3 : Int) (r4 : Bool) (w0 w : World) (hB : Below w0.heap.size w0 w) (h : scan_New.f a0 = some (r1, r2, r3, r4)) :
    Calls Tryd.prog 30 #[.string a0] w fun e w' => ∃ g_ : Nat, e = .returned (.pointer (some ⟨g_, 0, none⟩)) ∧ IsS100 w0 w' g_ r1 r2 r3 r4 ∧ Below w0.heap.size w0 w' ∧ Below w.heap.size w w' := by
 have hu100 := Tryd.underlying100
 have HBW := Aside0.mk (Below.refl w.heap.size w)
 have HW0 := Aside0.mk hB.size
 have HB := Aside0.mk hB
 clear hB
 have H : (some (a0, 0, 0, true)) = some (r1, r2, r3, r4) := h
 clear h
 simp only [Option.some.injEq, Prod.mk.injEq] at H
 obtain ⟨rfl, rfl, rfl, rfl⟩ := H
 go_enter Tryd.func30, Tryd.ntmps30
 go_wp2_with (first | ((with_reducible refine gate_dst (N := 5) rfl ?_); refine M.bx 5 100 (#[.string a0, .int .i64 0, .int .i64 0, .bool true]) ?_; intro zbc hg w2 hbox hb; replace HB := M.upS HB hb; have zbd := Aside0.mk (hbox); have zbe := Aside0.mk ((by rw [hg]; exact (below_size (by repeat (first | (with_reducible first | exact HBW.out | apply below_alloc | apply pw_below_drewN | apply below_drew1) | exact HBW.out))) : w.heap.size ≤ zbc)); have zbf := Aside0.mk ((Nat.le_trans HW0.out (by rw [hg]; exact (below_size (by repeat (first | (with_reducible first | exact HBW.out | apply below_alloc | apply pw_below_drewN | apply below_drew1) | exact HBW.out))) : w.heap.size ≤ zbc) : w0.heap.size ≤ zbc)); replace HBW := Aside0.mk (below_step HBW.out hb); clear hb hbox hg))
 go_ret
 exact ⟨_, rfl, (show IsS100 w0 _ zbc a0 0 0 true from ⟨by (with_reducible repeat (first | refine blk_drewN ?_ _ | refine blk_drew ?_ | refine blk_alloc ?_ _)); exact zbd.out, zbf.out⟩), by repeat (first | (with_reducible first | exact HB.out | apply below_alloc | apply pw_below_drewN | apply below_drew1 | refine below_set ?_ zbf.out) | exact HB.out), by repeat (first | (with_reducible first | exact HBW.out | apply below_alloc | apply pw_below_drewN | apply below_drew1 | refine below_set ?_ zbe.out) | exact HBW.out)⟩
def scan_Scan_Err.f (s0_0 : ByteArray) (s0_1 : Int) (s0_2 : Int) (s0_3 : Bool) : Option (Int × ByteArray × Int × Int × Bool) := if s0_3 = true then (some (s0_2, s0_0, s0_1, s0_2, s0_3)) else (some (1, s0_0, s0_1, s0_2, s0_3))
set_option maxHeartbeats 8000000 in
set_option maxRecDepth 100000 in
theorem scan_Scan_Err.calls (g : Nat) (s0_0 : ByteArray) (s0_1 : Int) (s0_2 : Int) (s0_3 : Bool) (r1 : Int) (r2 : ByteArray) (r3 : Int) (r4 : Int) (r5 : Bool) (w0 w : World) (hI : IsS100 w0 w g s0_0 s0_1 s0_2 s0_3) (hB : Below w0.heap.size w0 w) (h : scan_Scan_Err.f s0_0 s0_1 s0_2 s0_3 = some (r1, r2, r3, r4, r5)) :
    Calls Tryd.prog 54 #[.pointer (some ⟨g, 0, none⟩)] w fun e w' => e = .returned (.int .i64 r1) ∧ IsS100 w0 w' g r2 r3 r4 r5 ∧ Below w0.heap.size w0 w' ∧ KeepBut w w' g none := by
 have HI0 := Aside0.mk hI
 have HK := Aside0.mk (KeepBut.refl w g none)
 have HL := Aside0.mk hB.size
 clear hI
 have HW0 := Aside0.mk hB.size
 have HB := Aside0.mk hB
 clear hB
 have H : (if s0_3 = true then (some (s0_2, s0_0, s0_1, s0_2, s0_3)) else (some (1, s0_0, s0_1, s0_2, s0_3))) = some (r1, r2, r3, r4, r5) := h
 clear h
 by_cases c2 : s0_3 = true
 ·subst c2
  have H1 : (some (s0_2, s0_0, s0_1, s0_2, true)) = some (r1, r2, r3, r4, r5) := by rw [if_pos rfl] at H; exact H
  clear H
  have H := H1
  clear H1
  simp only [Option.some.injEq, Prod.mk.injEq] at H
  obtain ⟨rfl, rfl, rfl, rfl, rfl⟩ := H
  obtain ⟨HGz3, hgz3⟩ := HI0.out
  have zbg := cellS100_0 HGz3
  have zbh := cellS100_1 HGz3
  have zbi := cellS100_2 HGz3
  have zbj := cellS100_3 HGz3
  have zbk := blk_frozen HGz3 0
  have zbl := blk_frozen HGz3 1
  have zbm := blk_frozen HGz3 2
  have zbn := blk_frozen HGz3 3
  clear HGz3 hgz3
  go_enter Tryd.func54, Tryd.ntmps54
  go_wp2
  go_ret
  exact ⟨M.eqe, by repeat (first | (with_reducible first | exact HI0.out | apply IsS100.alloc | apply IsS100.drewN | apply IsS100.drew | apply IsS100.set_0 | apply IsS100.set_1 | apply IsS100.set_2 | apply IsS100.set_3) | exact HI0.out), by repeat (first | (with_reducible first | exact HB.out | apply below_alloc | apply pw_below_drewN | apply below_drew1 | refine below_set ?_ (IsS100.ge HI0.out)) | exact HB.out), by repeat (first | (with_reducible first | exact HK.out | apply KeepBut.set_ | apply keep_drewN | apply keep_drew | apply keep_alloc) | exact HK.out)⟩
 ·replace c2 := Bool.eq_false_iff.mpr c2
  subst c2
  have H1 : (some (1, s0_0, s0_1, s0_2, false)) = some (r1, r2, r3, r4, r5) := by rw [if_neg (show ¬ (false = true) by decide)] at H; exact H
  clear H
  have H := H1
  clear H1
  simp only [Option.some.injEq, Prod.mk.injEq] at H
  obtain ⟨rfl, rfl, rfl, rfl, rfl⟩ := H
  obtain ⟨HGz4, hgz4⟩ := HI0.out
  have zbo := cellS100_0 HGz4
  have zbp := cellS100_1 HGz4
  have zbq := cellS100_2 HGz4
  have zbr := cellS100_3 HGz4
  have zbs := blk_frozen HGz4 0
  have zbt := blk_frozen HGz4 1
  have zbu := blk_frozen HGz4 2
  have zbv := blk_frozen HGz4 3
  clear HGz4 hgz4
  go_enter Tryd.func54, Tryd.ntmps54
  go_wp2
  go_ret
  exact ⟨M.eqe, by repeat (first | (with_reducible first | exact HI0.out | apply IsS100.alloc | apply IsS100.drewN | apply IsS100.drew | apply IsS100.set_0 | apply IsS100.set_1 | apply IsS100.set_2 | apply IsS100.set_3) | exact HI0.out), by repeat (first | (with_reducible first | exact HB.out | apply below_alloc | apply pw_below_drewN | apply below_drew1 | refine below_set ?_ (IsS100.ge HI0.out)) | exact HB.out), by repeat (first | (with_reducible first | exact HK.out | apply KeepBut.set_ | apply keep_drewN | apply keep_drew | apply keep_alloc) | exact HK.out)⟩
def scan_Scan_take_p.f (s0_0 : ByteArray) (s0_1 : Int) (s0_2 : Int) (s0_3 : Bool) (a1 : Int) : Option (ByteArray × ByteArray × Int × Int × Bool) := (scan_Scan_Err.f s0_0 s0_1 s0_2 s0_3).bind fun bt105 => (if bt105.1 = 0 then (if a1 < 0 then (some ((⟨#[]⟩ : ByteArray), bt105.2.1, bt105.2.2.1, 3, bt105.2.2.2.2)) else (if a1 > (wrap64 ((bt105.2.1.size : Int) - bt105.2.2.1)) then (some ((⟨#[]⟩ : ByteArray), bt105.2.1, bt105.2.2.1, 3, bt105.2.2.2.2)) else (if 0 ≤ bt105.2.2.1 then (if bt105.2.2.1 ≤ (wrap64 (bt105.2.2.1 + a1)) then (if (wrap64 (bt105.2.2.1 + a1)) ≤ (bt105.2.1.size : Int) then (some (bt105.2.1.extract (bt105.2.2.1 : Int).toNat ((wrap64 (bt105.2.2.1 + a1)) : Int).toNat, bt105.2.1, wrap64 (bt105.2.2.1 + a1), bt105.2.2.2.1, bt105.2.2.2.2)) else (none)) else (none)) else (none)))) else (some ((⟨#[]⟩ : ByteArray), bt105.2.1, bt105.2.2.1, bt105.2.2.2.1, bt105.2.2.2.2)))
set_option maxHeartbeats 8000000 in
set_option maxRecDepth 100000 in
theorem scan_Scan_take_p.calls (g : Nat) (s0_0 : ByteArray) (s0_1 : Int) (s0_2 : Int) (s0_3 : Bool) (a1 : Int) (r1 : ByteArray) (r2 : ByteArray) (r3 : Int) (r4 : Int) (r5 : Bool) (w0 w : World) (hI : IsS100 w0 w g s0_0 s0_1 s0_2 s0_3) (hB : Below w0.heap.size w0 w) (h : scan_Scan_take_p.f s0_0 s0_1 s0_2 s0_3 a1 = some (r1, r2, r3, r4, r5)) :
    Calls Tryd.prog 53 #[.pointer (some ⟨g, 0, none⟩), .int .i64 a1] w fun e w' => e = .returned (.string r1) ∧ IsS100 w0 w' g r2 r3 r4 r5 ∧ Below w0.heap.size w0 w' ∧ KeepBut w w' g none := by
 have HI0 := Aside0.mk hI
 have HK := Aside0.mk (KeepBut.refl w g none)
 have HL := Aside0.mk hB.size
 clear hI
 have HW0 := Aside0.mk hB.size
 have HB := Aside0.mk hB
 clear hB
 have H : ((scan_Scan_Err.f s0_0 s0_1 s0_2 s0_3).bind fun bt105 => (if bt105.1 = 0 then (if a1 < 0 then (some ((⟨#[]⟩ : ByteArray), bt105.2.1, bt105.2.2.1, 3, bt105.2.2.2.2)) else (if a1 > (wrap64 ((bt105.2.1.size : Int) - bt105.2.2.1)) then (some ((⟨#[]⟩ : ByteArray), bt105.2.1, bt105.2.2.1, 3, bt105.2.2.2.2)) else (if 0 ≤ bt105.2.2.1 then (if bt105.2.2.1 ≤ (wrap64 (bt105.2.2.1 + a1)) then (if (wrap64 (bt105.2.2.1 + a1)) ≤ (bt105.2.1.size : Int) then (some (bt105.2.1.extract (bt105.2.2.1 : Int).toNat ((wrap64 (bt105.2.2.1 + a1)) : Int).toNat, bt105.2.1, wrap64 (bt105.2.2.1 + a1), bt105.2.2.2.1, bt105.2.2.2.2)) else (none)) else (none)) else (none)))) else (some ((⟨#[]⟩ : ByteArray), bt105.2.1, bt105.2.2.1, bt105.2.2.2.1, bt105.2.2.2.2)))) = some (r1, r2, r3, r4, r5) := h
 clear h
 replace H := Option.bind_eq_some_iff.mp H
 obtain ⟨⟨t105, t106, t107, t108, t109⟩, A30, H⟩ := H
 replace H : (if t105 = 0 then (if a1 < 0 then (some ((⟨#[]⟩ : ByteArray), t106, t107, 3, t109)) else (if a1 > (wrap64 ((t106.size : Int) - t107)) then (some ((⟨#[]⟩ : ByteArray), t106, t107, 3, t109)) else (if 0 ≤ t107 then (if t107 ≤ (wrap64 (t107 + a1)) then (if (wrap64 (t107 + a1)) ≤ (t106.size : Int) then (some (t106.extract (t107 : Int).toNat ((wrap64 (t107 + a1)) : Int).toNat, t106, wrap64 (t107 + a1), t108, t109)) else (none)) else (none)) else (none)))) else (some ((⟨#[]⟩ : ByteArray), t106, t107, t108, t109))) = some (r1, r2, r3, r4, r5) := H
 have A3 := Aside0.mk A30
 clear A30
 by_cases c4 : t105 = 0
 ·rw [if_pos c4] at H
  have c4b0 : (t105 == 0) = true := beq_iff_eq.mpr c4
  have c4b1 : (t105 != 0) = false := bne_eq_false_iff_eq.mpr c4
  clear c4
  by_cases c5 : a1 < 0
  ·rw [if_pos c5] at H
   have c5b0 := decide_eq_true c5
   clear c5
   simp only [Option.some.injEq, Prod.mk.injEq] at H
   obtain ⟨rfl, rfl, rfl, rfl, rfl⟩ := H
   go_enter Tryd.func53, Tryd.ntmps53
   go_wp2_with (first | (go_at_call 54; (with_reducible refine (scan_Scan_Err.calls g s0_0 s0_1 s0_2 s0_3 t105 t106 t107 t108 t109 w0 _ ?side1 ?side2 A3.out).mono ?_); (case side1 => repeat (first | (with_reducible first | exact HI0.out | apply IsS100.alloc | apply IsS100.drewN | apply IsS100.drew | apply IsS100.set_0 | apply IsS100.set_1 | apply IsS100.set_2 | apply IsS100.set_3) | exact HI0.out)); (case side2 => repeat (first | (with_reducible first | exact HB.out | apply below_alloc | apply pw_below_drewN | apply below_drew1 | refine below_set ?_ (IsS100.ge HI0.out)) | exact HB.out)); rintro e w6 ⟨rfl, hi, hb, hk⟩; replace HK := Aside0.mk (KeepBut.trans (by repeat (first | (with_reducible first | exact HK.out | apply KeepBut.set_ | apply keep_drewN | apply keep_drew | apply keep_alloc) | exact HK.out)) hk (.inl rfl)); replace HB := Aside0.mk (hb); replace HI0 := Aside0.mk (hi); (try clear hb); (try clear hb2); (try clear hk); (try clear hi); obtain ⟨HGz7, hgz7⟩ := HI0.out; have zaq := cellS100_0 HGz7; have zar := cellS100_1 HGz7; have zas := cellS100_2 HGz7; have zat := cellS100_3 HGz7; have zau := blk_frozen HGz7 0; have zav := blk_frozen HGz7 1; have zaw := blk_frozen HGz7 2; have zax := blk_frozen HGz7 3; clear HGz7 hgz7))
   repeat (go_quiet (first | (go_at_call 54; (with_reducible refine (scan_Scan_Err.calls g s0_0 s0_1 s0_2 s0_3 t105 t106 t107 t108 t109 w0 _ ?side1 ?side2 A3.out).mono ?_); (case side1 => repeat (first | (with_reducible first | exact HI0.out | apply IsS100.alloc | apply IsS100.drewN | apply IsS100.drew | apply IsS100.set_0 | apply IsS100.set_1 | apply IsS100.set_2 | apply IsS100.set_3) | exact HI0.out)); (case side2 => repeat (first | (with_reducible first | exact HB.out | apply below_alloc | apply pw_below_drewN | apply below_drew1 | refine below_set ?_ (IsS100.ge HI0.out)) | exact HB.out)); rintro e w6 ⟨rfl, hi, hb, hk⟩; replace HK := Aside0.mk (KeepBut.trans (by repeat (first | (with_reducible first | exact HK.out | apply KeepBut.set_ | apply keep_drewN | apply keep_drew | apply keep_alloc) | exact HK.out)) hk (.inl rfl)); replace HB := Aside0.mk (hb); replace HI0 := Aside0.mk (hi); (try clear hb); (try clear hb2); (try clear hk); (try clear hi); obtain ⟨HGz7, hgz7⟩ := HI0.out; have zaq := cellS100_0 HGz7; have zar := cellS100_1 HGz7; have zas := cellS100_2 HGz7; have zat := cellS100_3 HGz7; have zau := blk_frozen HGz7 0; have zav := blk_frozen HGz7 1; have zaw := blk_frozen HGz7 2; have zax := blk_frozen HGz7 3; clear HGz7 hgz7)); try go_wp2_with (first | (go_at_call 54; (with_reducible refine (scan_Scan_Err.calls g s0_0 s0_1 s0_2 s0_3 t105 t106 t107 t108 t109 w0 _ ?side1 ?side2 A3.out).mono ?_); (case side1 => repeat (first | (with_reducible first | exact HI0.out | apply IsS100.alloc | apply IsS100.drewN | apply IsS100.drew | apply IsS100.set_0 | apply IsS100.set_1 | apply IsS100.set_2 | apply IsS100.set_3) | exact HI0.out)); (case side2 => repeat (first | (with_reducible first | exact HB.out | apply below_alloc | apply pw_below_drewN | apply below_drew1 | refine below_set ?_ (IsS100.ge HI0.out)) | exact HB.out)); rintro e w6 ⟨rfl, hi, hb, hk⟩; replace HK := Aside0.mk (KeepBut.trans (by repeat (first | (with_reducible first | exact HK.out | apply KeepBut.set_ | apply keep_drewN | apply keep_drew | apply keep_alloc) | exact HK.out)) hk (.inl rfl)); replace HB := Aside0.mk (hb); replace HI0 := Aside0.mk (hi); (try clear hb); (try clear hb2); (try clear hk); (try clear hi); obtain ⟨HGz7, hgz7⟩ := HI0.out; have zaq := cellS100_0 HGz7; have zar := cellS100_1 HGz7; have zas := cellS100_2 HGz7; have zat := cellS100_3 HGz7; have zau := blk_frozen HGz7 0; have zav := blk_frozen HGz7 1; have zaw := blk_frozen HGz7 2; have zax := blk_frozen HGz7 3; clear HGz7 hgz7)))
   go_ret
   exact ⟨M.eqe, by repeat (first | (with_reducible first | exact HI0.out | apply IsS100.alloc | apply IsS100.drewN | apply IsS100.drew | apply IsS100.set_0 | apply IsS100.set_1 | apply IsS100.set_2 | apply IsS100.set_3) | exact HI0.out), by repeat (first | (with_reducible first | exact HB.out | apply below_alloc | apply pw_below_drewN | apply below_drew1 | refine below_set ?_ (IsS100.ge HI0.out)) | exact HB.out), by repeat (first | (with_reducible first | exact HK.out | apply KeepBut.set_ | apply keep_drewN | apply keep_drew | apply keep_alloc) | exact HK.out)⟩
  ·rw [if_neg c5] at H
   have c5b0 := decide_eq_false c5
   clear c5
   by_cases c8 : a1 > (wrap64 ((t106.size : Int) - t107))
   ·rw [if_pos c8] at H
    have c8b0 := decide_eq_true c8
    clear c8
    simp only [Option.some.injEq, Prod.mk.injEq] at H
    obtain ⟨rfl, rfl, rfl, rfl, rfl⟩ := H
    go_enter Tryd.func53, Tryd.ntmps53
    go_wp2_with (first | (go_at_call 54; (with_reducible refine (scan_Scan_Err.calls g s0_0 s0_1 s0_2 s0_3 t105 t106 t107 t108 t109 w0 _ ?side1 ?side2 A3.out).mono ?_); (case side1 => repeat (first | (with_reducible first | exact HI0.out | apply IsS100.alloc | apply IsS100.drewN | apply IsS100.drew | apply IsS100.set_0 | apply IsS100.set_1 | apply IsS100.set_2 | apply IsS100.set_3) | exact HI0.out)); (case side2 => repeat (first | (with_reducible first | exact HB.out | apply below_alloc | apply pw_below_drewN | apply below_drew1 | refine below_set ?_ (IsS100.ge HI0.out)) | exact HB.out)); rintro e w9 ⟨rfl, hi, hb, hk⟩; replace HK := Aside0.mk (KeepBut.trans (by repeat (first | (with_reducible first | exact HK.out | apply KeepBut.set_ | apply keep_drewN | apply keep_drew | apply keep_alloc) | exact HK.out)) hk (.inl rfl)); replace HB := Aside0.mk (hb); replace HI0 := Aside0.mk (hi); (try clear hb); (try clear hb2); (try clear hk); (try clear hi); obtain ⟨HGz10, hgz10⟩ := HI0.out; have zbw := cellS100_0 HGz10; have zbx := cellS100_1 HGz10; have zby := cellS100_2 HGz10; have zbz := cellS100_3 HGz10; have zbA := blk_frozen HGz10 0; have zbB := blk_frozen HGz10 1; have zbC := blk_frozen HGz10 2; have zbD := blk_frozen HGz10 3; clear HGz10 hgz10))
    repeat (go_quiet (first | (go_at_call 54; (with_reducible refine (scan_Scan_Err.calls g s0_0 s0_1 s0_2 s0_3 t105 t106 t107 t108 t109 w0 _ ?side1 ?side2 A3.out).mono ?_); (case side1 => repeat (first | (with_reducible first | exact HI0.out | apply IsS100.alloc | apply IsS100.drewN | apply IsS100.drew | apply IsS100.set_0 | apply IsS100.set_1 | apply IsS100.set_2 | apply IsS100.set_3) | exact HI0.out)); (case side2 => repeat (first | (with_reducible first | exact HB.out | apply below_alloc | apply pw_below_drewN | apply below_drew1 | refine below_set ?_ (IsS100.ge HI0.out)) | exact HB.out)); rintro e w9 ⟨rfl, hi, hb, hk⟩; replace HK := Aside0.mk (KeepBut.trans (by repeat (first | (with_reducible first | exact HK.out | apply KeepBut.set_ | apply keep_drewN | apply keep_drew | apply keep_alloc) | exact HK.out)) hk (.inl rfl)); replace HB := Aside0.mk (hb); replace HI0 := Aside0.mk (hi); (try clear hb); (try clear hb2); (try clear hk); (try clear hi); obtain ⟨HGz10, hgz10⟩ := HI0.out; have zbw := cellS100_0 HGz10; have zbx := cellS100_1 HGz10; have zby := cellS100_2 HGz10; have zbz := cellS100_3 HGz10; have zbA := blk_frozen HGz10 0; have zbB := blk_frozen HGz10 1; have zbC := blk_frozen HGz10 2; have zbD := blk_frozen HGz10 3; clear HGz10 hgz10)); try go_wp2_with (first | (go_at_call 54; (with_reducible refine (scan_Scan_Err.calls g s0_0 s0_1 s0_2 s0_3 t105 t106 t107 t108 t109 w0 _ ?side1 ?side2 A3.out).mono ?_); (case side1 => repeat (first | (with_reducible first | exact HI0.out | apply IsS100.alloc | apply IsS100.drewN | apply IsS100.drew | apply IsS100.set_0 | apply IsS100.set_1 | apply IsS100.set_2 | apply IsS100.set_3) | exact HI0.out)); (case side2 => repeat (first | (with_reducible first | exact HB.out | apply below_alloc | apply pw_below_drewN | apply below_drew1 | refine below_set ?_ (IsS100.ge HI0.out)) | exact HB.out)); rintro e w9 ⟨rfl, hi, hb, hk⟩; replace HK := Aside0.mk (KeepBut.trans (by repeat (first | (with_reducible first | exact HK.out | apply KeepBut.set_ | apply keep_drewN | apply keep_drew | apply keep_alloc) | exact HK.out)) hk (.inl rfl)); replace HB := Aside0.mk (hb); replace HI0 := Aside0.mk (hi); (try clear hb); (try clear hb2); (try clear hk); (try clear hi); obtain ⟨HGz10, hgz10⟩ := HI0.out; have zbw := cellS100_0 HGz10; have zbx := cellS100_1 HGz10; have zby := cellS100_2 HGz10; have zbz := cellS100_3 HGz10; have zbA := blk_frozen HGz10 0; have zbB := blk_frozen HGz10 1; have zbC := blk_frozen HGz10 2; have zbD := blk_frozen HGz10 3; clear HGz10 hgz10)))
    go_ret
    exact ⟨M.eqe, by repeat (first | (with_reducible first | exact HI0.out | apply IsS100.alloc | apply IsS100.drewN | apply IsS100.drew | apply IsS100.set_0 | apply IsS100.set_1 | apply IsS100.set_2 | apply IsS100.set_3) | exact HI0.out), by repeat (first | (with_reducible first | exact HB.out | apply below_alloc | apply pw_below_drewN | apply below_drew1 | refine below_set ?_ (IsS100.ge HI0.out)) | exact HB.out), by repeat (first | (with_reducible first | exact HK.out | apply KeepBut.set_ | apply keep_drewN | apply keep_drew | apply keep_alloc) | exact HK.out)⟩
   ·rw [if_neg c8] at H
    have c8b0 := decide_eq_false c8
    clear c8
    by_cases c11 : 0 ≤ t107
    ·rw [if_pos c11] at H
     have c11b0 := eq_true c11
     have c11b1 := decide_eq_true c11
     clear c11
     by_cases c12 : t107 ≤ (wrap64 (t107 + a1))
     ·rw [if_pos c12] at H
      have c12b0 := eq_true c12
      have c12b1 := decide_eq_true c12
      by_cases c13 : (wrap64 (t107 + a1)) ≤ (t106.size : Int)
      ·rw [if_pos c13] at H
       have c13b0 := eq_true c13
       have c13b1 := decide_eq_true c13
       simp only [Option.some.injEq, Prod.mk.injEq] at H
       obtain ⟨rfl, rfl, rfl, rfl, rfl⟩ := H
       go_enter Tryd.func53, Tryd.ntmps53
       go_wp2_with (first | (go_at_call 54; (with_reducible refine (scan_Scan_Err.calls g s0_0 s0_1 s0_2 s0_3 t105 t106 t107 t108 t109 w0 _ ?side1 ?side2 A3.out).mono ?_); (case side1 => repeat (first | (with_reducible first | exact HI0.out | apply IsS100.alloc | apply IsS100.drewN | apply IsS100.drew | apply IsS100.set_0 | apply IsS100.set_1 | apply IsS100.set_2 | apply IsS100.set_3) | exact HI0.out)); (case side2 => repeat (first | (with_reducible first | exact HB.out | apply below_alloc | apply pw_below_drewN | apply below_drew1 | refine below_set ?_ (IsS100.ge HI0.out)) | exact HB.out)); rintro e w14 ⟨rfl, hi, hb, hk⟩; replace HK := Aside0.mk (KeepBut.trans (by repeat (first | (with_reducible first | exact HK.out | apply KeepBut.set_ | apply keep_drewN | apply keep_drew | apply keep_alloc) | exact HK.out)) hk (.inl rfl)); replace HB := Aside0.mk (hb); replace HI0 := Aside0.mk (hi); (try clear hb); (try clear hb2); (try clear hk); (try clear hi); obtain ⟨HGz15, hgz15⟩ := HI0.out; have zbE := cellS100_0 HGz15; have zbF := cellS100_1 HGz15; have zbG := cellS100_2 HGz15; have zbH := cellS100_3 HGz15; have zbI := blk_frozen HGz15 0; have zbJ := blk_frozen HGz15 1; have zbK := blk_frozen HGz15 2; have zbL := blk_frozen HGz15 3; clear HGz15 hgz15))
       repeat (go_quiet (first | (go_at_call 54; (with_reducible refine (scan_Scan_Err.calls g s0_0 s0_1 s0_2 s0_3 t105 t106 t107 t108 t109 w0 _ ?side1 ?side2 A3.out).mono ?_); (case side1 => repeat (first | (with_reducible first | exact HI0.out | apply IsS100.alloc | apply IsS100.drewN | apply IsS100.drew | apply IsS100.set_0 | apply IsS100.set_1 | apply IsS100.set_2 | apply IsS100.set_3) | exact HI0.out)); (case side2 => repeat (first | (with_reducible first | exact HB.out | apply below_alloc | apply pw_below_drewN | apply below_drew1 | refine below_set ?_ (IsS100.ge HI0.out)) | exact HB.out)); rintro e w14 ⟨rfl, hi, hb, hk⟩; replace HK := Aside0.mk (KeepBut.trans (by repeat (first | (with_reducible first | exact HK.out | apply KeepBut.set_ | apply keep_drewN | apply keep_drew | apply keep_alloc) | exact HK.out)) hk (.inl rfl)); replace HB := Aside0.mk (hb); replace HI0 := Aside0.mk (hi); (try clear hb); (try clear hb2); (try clear hk); (try clear hi); obtain ⟨HGz15, hgz15⟩ := HI0.out; have zbE := cellS100_0 HGz15; have zbF := cellS100_1 HGz15; have zbG := cellS100_2 HGz15; have zbH := cellS100_3 HGz15; have zbI := blk_frozen HGz15 0; have zbJ := blk_frozen HGz15 1; have zbK := blk_frozen HGz15 2; have zbL := blk_frozen HGz15 3; clear HGz15 hgz15)); try go_wp2_with (first | (go_at_call 54; (with_reducible refine (scan_Scan_Err.calls g s0_0 s0_1 s0_2 s0_3 t105 t106 t107 t108 t109 w0 _ ?side1 ?side2 A3.out).mono ?_); (case side1 => repeat (first | (with_reducible first | exact HI0.out | apply IsS100.alloc | apply IsS100.drewN | apply IsS100.drew | apply IsS100.set_0 | apply IsS100.set_1 | apply IsS100.set_2 | apply IsS100.set_3) | exact HI0.out)); (case side2 => repeat (first | (with_reducible first | exact HB.out | apply below_alloc | apply pw_below_drewN | apply below_drew1 | refine below_set ?_ (IsS100.ge HI0.out)) | exact HB.out)); rintro e w14 ⟨rfl, hi, hb, hk⟩; replace HK := Aside0.mk (KeepBut.trans (by repeat (first | (with_reducible first | exact HK.out | apply KeepBut.set_ | apply keep_drewN | apply keep_drew | apply keep_alloc) | exact HK.out)) hk (.inl rfl)); replace HB := Aside0.mk (hb); replace HI0 := Aside0.mk (hi); (try clear hb); (try clear hb2); (try clear hk); (try clear hi); obtain ⟨HGz15, hgz15⟩ := HI0.out; have zbE := cellS100_0 HGz15; have zbF := cellS100_1 HGz15; have zbG := cellS100_2 HGz15; have zbH := cellS100_3 HGz15; have zbI := blk_frozen HGz15 0; have zbJ := blk_frozen HGz15 1; have zbK := blk_frozen HGz15 2; have zbL := blk_frozen HGz15 3; clear HGz15 hgz15)))
       go_ret
       exact ⟨M.eqe, by repeat (first | (with_reducible first | exact HI0.out | apply IsS100.alloc | apply IsS100.drewN | apply IsS100.drew | apply IsS100.set_0 | apply IsS100.set_1 | apply IsS100.set_2 | apply IsS100.set_3) | exact HI0.out), by repeat (first | (with_reducible first | exact HB.out | apply below_alloc | apply pw_below_drewN | apply below_drew1 | refine below_set ?_ (IsS100.ge HI0.out)) | exact HB.out), by repeat (first | (with_reducible first | exact HK.out | apply KeepBut.set_ | apply keep_drewN | apply keep_drew | apply keep_alloc) | exact HK.out)⟩
      ·exact M.nf c13 H
     ·exact M.nf c12 H
    ·exact M.nf c11 H
 ·rw [if_neg c4] at H
  have c4b0 : (t105 == 0) = false := beq_eq_false_iff_ne.mpr c4
  have c4b1 : (t105 != 0) = true := bne_iff_ne.mpr c4
  simp only [Option.some.injEq, Prod.mk.injEq] at H
  obtain ⟨rfl, rfl, rfl, rfl, rfl⟩ := H
  go_enter Tryd.func53, Tryd.ntmps53
  go_wp2_with (first | (go_at_call 54; (with_reducible refine (scan_Scan_Err.calls g s0_0 s0_1 s0_2 s0_3 t105 t106 t107 t108 t109 w0 _ ?side1 ?side2 A3.out).mono ?_); (case side1 => repeat (first | (with_reducible first | exact HI0.out | apply IsS100.alloc | apply IsS100.drewN | apply IsS100.drew | apply IsS100.set_0 | apply IsS100.set_1 | apply IsS100.set_2 | apply IsS100.set_3) | exact HI0.out)); (case side2 => repeat (first | (with_reducible first | exact HB.out | apply below_alloc | apply pw_below_drewN | apply below_drew1 | refine below_set ?_ (IsS100.ge HI0.out)) | exact HB.out)); rintro e w16 ⟨rfl, hi, hb, hk⟩; replace HK := Aside0.mk (KeepBut.trans (by repeat (first | (with_reducible first | exact HK.out | apply KeepBut.set_ | apply keep_drewN | apply keep_drew | apply keep_alloc) | exact HK.out)) hk (.inl rfl)); replace HB := Aside0.mk (hb); replace HI0 := Aside0.mk (hi); (try clear hb); (try clear hb2); (try clear hk); (try clear hi)))
  repeat (go_quiet (first | (go_at_call 54; (with_reducible refine (scan_Scan_Err.calls g s0_0 s0_1 s0_2 s0_3 t105 t106 t107 t108 t109 w0 _ ?side1 ?side2 A3.out).mono ?_); (case side1 => repeat (first | (with_reducible first | exact HI0.out | apply IsS100.alloc | apply IsS100.drewN | apply IsS100.drew | apply IsS100.set_0 | apply IsS100.set_1 | apply IsS100.set_2 | apply IsS100.set_3) | exact HI0.out)); (case side2 => repeat (first | (with_reducible first | exact HB.out | apply below_alloc | apply pw_below_drewN | apply below_drew1 | refine below_set ?_ (IsS100.ge HI0.out)) | exact HB.out)); rintro e w16 ⟨rfl, hi, hb, hk⟩; replace HK := Aside0.mk (KeepBut.trans (by repeat (first | (with_reducible first | exact HK.out | apply KeepBut.set_ | apply keep_drewN | apply keep_drew | apply keep_alloc) | exact HK.out)) hk (.inl rfl)); replace HB := Aside0.mk (hb); replace HI0 := Aside0.mk (hi); (try clear hb); (try clear hb2); (try clear hk); (try clear hi))); try go_wp2_with (first | (go_at_call 54; (with_reducible refine (scan_Scan_Err.calls g s0_0 s0_1 s0_2 s0_3 t105 t106 t107 t108 t109 w0 _ ?side1 ?side2 A3.out).mono ?_); (case side1 => repeat (first | (with_reducible first | exact HI0.out | apply IsS100.alloc | apply IsS100.drewN | apply IsS100.drew | apply IsS100.set_0 | apply IsS100.set_1 | apply IsS100.set_2 | apply IsS100.set_3) | exact HI0.out)); (case side2 => repeat (first | (with_reducible first | exact HB.out | apply below_alloc | apply pw_below_drewN | apply below_drew1 | refine below_set ?_ (IsS100.ge HI0.out)) | exact HB.out)); rintro e w16 ⟨rfl, hi, hb, hk⟩; replace HK := Aside0.mk (KeepBut.trans (by repeat (first | (with_reducible first | exact HK.out | apply KeepBut.set_ | apply keep_drewN | apply keep_drew | apply keep_alloc) | exact HK.out)) hk (.inl rfl)); replace HB := Aside0.mk (hb); replace HI0 := Aside0.mk (hi); (try clear hb); (try clear hb2); (try clear hk); (try clear hi))))
  go_ret
  exact ⟨M.eqe, by repeat (first | (with_reducible first | exact HI0.out | apply IsS100.alloc | apply IsS100.drewN | apply IsS100.drew | apply IsS100.set_0 | apply IsS100.set_1 | apply IsS100.set_2 | apply IsS100.set_3) | exact HI0.out), by repeat (first | (with_reducible first | exact HB.out | apply below_alloc | apply pw_below_drewN | apply below_drew1 | refine below_set ?_ (IsS100.ge HI0.out)) | exact HB.out), by repeat (first | (with_reducible first | exact HK.out | apply KeepBut.set_ | apply keep_drewN | apply keep_drew | apply keep_alloc) | exact HK.out)⟩
def scan_Scan_take.f (s0_0 : ByteArray) (s0_1 : Int) (s0_2 : Int) (s0_3 : Bool) (a1 : Int) : Option (ByteArray × ByteArray × Int × Int × Bool) :=
  if s0_3 = true then (if M.sok s0_0 s0_1 ∧ -9223372036854775808 ≤ a1 ∧ a1 ≤ 9223372036854775807 then some ((M.xfix s0_0 s0_1 s0_2 a1).1, s0_0, (M.xfix s0_0 s0_1 s0_2 a1).2.1, (M.xfix s0_0 s0_1 s0_2 a1).2.2, true) else none) else some (M.sb [], s0_0, s0_1, s0_2, s0_3)
theorem scan_Scan_take.ev (s : ByteArray) (p er : Int) (md : Bool) (n : Int) (r : ByteArray × ByteArray × Int × Int × Bool) (h : scan_Scan_take.f s p er md n = some r) : scan_Scan_take_p.f s p er md n = some r := by
 unfold scan_Scan_take.f at h
 unfold scan_Scan_take_p.f scan_Scan_Err.f
 cases md with
 | false => rw [if_neg (by simp)] at h ⊢; rw [Option.bind_some]; exact h
 | true =>
  rw [if_pos rfl] at h ⊢
  rw [Option.bind_some]
  split at h
  case isFalse => cases h
  case isTrue hh =>
   obtain ⟨hs, hn, hn'⟩ := hh
   rw [← h]
   unfold M.xfix
   by_cases he : er = 0
   ·subst he
    have hc := M.fix_code s hs hn hn'
    simp only [if_true] at hc ⊢
    generalize M.sfix s p n = q at hc ⊢
    revert hc
    (repeat' split) <;> intro hc <;> first | (cases hc; rfl) | (cases hc; done)
   ·simp only [if_neg he]; rfl
theorem scan_Scan_take.calls (g : Nat) (s0_0 : ByteArray) (s0_1 : Int) (s0_2 : Int) (s0_3 : Bool) (a1 : Int) (r1 : ByteArray) (r2 : ByteArray) (r3 : Int) (r4 : Int) (r5 : Bool) (w0 w : World) (hI : IsS100 w0 w g s0_0 s0_1 s0_2 s0_3) (hB : Below w0.heap.size w0 w) (h : scan_Scan_take.f s0_0 s0_1 s0_2 s0_3 a1 = some (r1, r2, r3, r4, r5)) :
    Calls Tryd.prog 53 #[.pointer (some ⟨g, 0, none⟩), .int .i64 a1] w fun e w' => e = .returned (.string r1) ∧ IsS100 w0 w' g r2 r3 r4 r5 ∧ Below w0.heap.size w0 w' ∧ KeepBut w w' g none := by
 exact scan_Scan_take_p.calls (w := w) (h := scan_Scan_take.ev _ _ _ _ _ _ h) (hI := hI) (hB := hB)
end Go.Proofs.YtikdbklmhjlfoaaDoor.ECommitKnots
